/- A machine over trees: an evaluator of the code, and that what it finds is so; part 2. -/
import Derived.Test.YtiljcjnnhkidbaaGreatTm1
import Derived.Laws.BytesString
import Derived.Tactics
set_option linter.unusedSimpArgs false
set_option linter.unusedVariables false
namespace Go.TM
open Go Go.RowKit
theorem Fw.grow {w0:World} {mu:Mu} {c:Cz} {st:St} {a:Act} {w:World} (h:Rel w0 mu c st a w) (o:Obj):Fw c st w c st (w.alloc o) where
 stays:=Av w _ _ _ fun _ _ h=>h
 refs a' j g A' _ iy:=⟨A',iy,rfl,rfl,rfl,fun _=>⟨rfl,fun b oo cap nk=>heap_alloc_old w _ b ((h.JZ (g:=g) iy).lt nk)⟩⟩
 G0 _ _ sj _ hb:=⟨⟨sj,hb⟩,rfl⟩
 gA _:=Nat.le_refl _
 gB _:=Nat.le_refl _
 gE _:=Nat.le_refl _
theorem Rel.grow {w0:World} {mu:Mu} {c:Cz} {st:St} {a:Act} {w:World} (h:Rel w0 mu c st a w) (o:Obj):Rel w0 mu c st a (w.alloc o) where
 je t:=(Fw.grow h o).vi (h.je t)
 boxes s sl cs hs hb:=by
  have hb0:=h.boxes s sl cs hs hb;exact hb0.go (Fw.grow h o) rfl rfl (heap_alloc_old w _ _ (h.yu hb0.1))
 bT s j sl A hs hA:=(h.bT s j sl A hs hA).go (Fw.grow h o).stays rfl fun b hb=>⟨heap_alloc_old w _ b (h.yu hb),rfl⟩
 owned b l hb:=⟨Nat.lt_of_lt_of_le (h.owned b l hb).1 (by simp),(h.owned b l hb).2⟩
 free:=h.free
 kept:=⟨h.kept.1,h.kept.2.1,h.kept.2.2.1,Nat.le_trans h.kept.2.2.2 (by simp)⟩
 old k hk hm:=by
  rw [heap_alloc_old w _ k (Nat.lt_of_lt_of_le hk h.kept.2.2.2)];exact h.old k hk hm
 hY p hp:=(Fw.grow h o).hY (h.hY p hp)
 plain:=h.plain
theorem iO.ain {c:Cz} {st:St} {w:World} {x:CV} {cs:List CV} {vs:List Value} (h:iO c st w (x::cs) vs):∃v l,vs=v::l∧qi c st w x v∧iO c st w cs l:=by
 obtain ⟨h1,h2⟩:=h
 cases vs with
 |nil=>simp at h1
 |cons v l=>exact ⟨v,l,rfl,h2 0 x v rfl rfl,by simpa using h1,fun i y u hy hu=>h2 (i+1) y u (by simpa using hy) (by simpa using hu)⟩
theorem Zg {w:World} {ok:Nat→Prop} {b off:Nat} (x:aO .nil):fx w ok .nil b off x:=by unfold fx;trivial
theorem Dp {w:World} {ok:Nat→Prop} {t:Ty} {r:RT} {b off:Nat} {x:aO (.cons t r)}:fx w ok (.cons t r) b off x↔(∃v,w.cell? ⟨b,off,none⟩=some v∧ev w ok t v x.1)∧fx w ok r b (off+1) x.2:=by
 constructor
 ·intro h;unfold fx at h;exact h
 ·intro h;unfold fx;exact h
theorem pV {c:Cz} {st:St} {w w':World} {ok:Nat→Prop} (hs:lf w w' c.ok ok) {b:Nat}:(cs:List CV)→{r:RT}→{x:aO r}→fX cs=some ⟨r,x⟩→(vs:List Value)→(off:Nat)→iO c st w cs vs→(∀(i:Nat) v,vs[i]?=some v→w'.cell? ⟨b,off+i,none⟩=some v)→fx w' ok r b off x
 | [],r,x,h,vs,off,_,_=>by
  unfold fX at h
  cases h
  exact Zg _
 |cx::cs,r,x,h,vs,off,hl,hc=>by
  obtain ⟨v,l,rfl,hx,By⟩:=hl.ain;have h0:=hc 0 v rfl;rw [Nat.add_zero] at h0;have gM:∀(i:Nat) u,l[i]?=some u→w'.cell? ⟨b,off+1+i,none⟩=some u:=fun i u hu=>by
   have:=hc (i+1) u hu
   rwa [show off+(i+1)=off+1+i by omega] at this
  cases cx with
  |int k n=>
   unfold fX at h
   cases hq:fX cs with
   |none=>rw [hq] at h;cases h
   |some p=>
    obtain ⟨r0,x0⟩:=p;rw [hq] at h
    cases h
    have ih:=pV hs cs hq l (off+1) By gM;exact Dp.2 ⟨⟨v,h0,yr.2 hx⟩,ih⟩
  |bool n=>
   unfold fX at h
   cases hq:fX cs with
   |none=>rw [hq] at h;cases h
   |some p=>
    obtain ⟨r0,x0⟩:=p;rw [hq] at h
    cases h
    have ih:=pV hs cs hq l (off+1) By gM;exact Dp.2 ⟨⟨v,h0,Bw.2 hx⟩,ih⟩
  |str n=>
   unfold fX at h
   cases hq:fX cs with
   |none=>rw [hq] at h;cases h
   |some p=>
    obtain ⟨r0,x0⟩:=p;rw [hq] at h
    cases h
    have ih:=pV hs cs hq l (off+1) By gM;exact Dp.2 ⟨⟨v,h0,EI.2 hx⟩,ih⟩
  |shr q xs=>
   unfold fX at h
   cases hq:fX cs with
   |none=>rw [hq] at h;cases h
   |some p=>
    obtain ⟨r0,x0⟩:=p;rw [hq] at h
    cases h
    have ih:=pV hs cs hq l (off+1) By gM;exact Dp.2 ⟨⟨v,h0,ev.stays hs _ _ _ hx⟩,ih⟩
  |_=>simp [fX] at h
def Cz.zX (c:Cz) (s:Nat):Cz:=
 { c with own:=fun k=>match c.own k with | some (.box t)=>if t=s then none else some (.box t) | l=>l }
theorem Cz.Vr {c:Cz} {s b:Nat} (h:c.ok b):(c.zX s).ok b:=by
 unfold Cz.ok Cz.zX at *;simp [h]
theorem Cz.J6 {c:Cz} {s b:Nat} (h:c.own b=some (.box s)):(c.zX s).ok b:=by
 unfold Cz.ok Cz.zX;simp [h]
theorem Cz.Hj {c:Cz} {s b:Nat} {l:Lb} (h:c.own b=some l) (mU:l≠.box s):(c.zX s).own b=some l:=by
 unfold Cz.zX;simp only [h]
 cases l with
 |box t=>
  simp only;rw [if_neg]
  rintro rfl
  exact mU rfl
 |_=>rfl
theorem Cz.PE {c:Cz} {s b:Nat} {l:Lb} (h:(c.zX s).own b=some l):c.own b=some l:=by
 unfold Cz.zX at h;simp only at h
 cases hc:c.own b with
 |none=>simp [hc] at h
 |some l'=>cases l' with
  |box t=>
   simp only [hc] at h
   by_cases e:t=s
   ·simp [e] at h
   ·rw [if_neg e] at h;exact h
  |_=>simp [hc] at h;rw [h]
theorem wP (st:St) (b s:Nat):nth (iH st b) s=if s=b then (nth st s).map (fun x=>{ x with box:=none }) else nth st s:=by
 unfold iH;rw [kZ]
theorem nU (st:St) (b s:Nat):dI (iH st b) s=dI st s∧gJ (iH st b) s=gJ st s∧jW (iH st b) s=jW st s∧wD (iH st b) s=wD st s∧∀j g,cE (iH st b) s j g=cE st s j g:=by
 unfold dI gJ jW wD cE;rw [wP]
 by_cases e:s=b
 ·rw [if_pos e]
  cases nth st s<;>simp
 ·rw [if_neg e];simp
theorem LW {st:St} {b s g:Nat} {cs:List CV} (h:fM (iH st b) s g=some cs):s≠b∧fM st s g=some cs:=by
 unfold fM at h ⊢;rw [wP] at h
 by_cases e:s=b
 ·rw [if_pos e] at h
  cases hx:nth st s with
  |none=>rw [hx] at h;cases h
  |some x=>
   rw [hx] at h;simp only [Option.map_some] at h
   cases hb:Nat.beq x.bg g<;>rw [hb] at h<;>cases h
 ·rw [if_neg e] at h;exact ⟨e,h⟩
theorem Fw.iH (c:Cz) (st:St) (w:World) (s:Nat):Fw c st w (c.zX s) (iH st s) w where
 stays:=⟨Nat.le_refl _,fun _ _ _=>rfl,fun _ _ h=>Cz.Vr h⟩
 refs a' j' g A' _ iy:=⟨A',by rwa [(nU st s a').2.2.2.2] at iy,rfl,rfl,rfl,fun _=>⟨rfl,fun _ _ _ _=>rfl⟩⟩
 G0 b g sj _ h:=⟨⟨sj,(LW h).2⟩,rfl⟩
 gA b:=by rw [(nU st s b).2.1];exact Nat.le_refl _
 gB b:=by rw [(nU st s b).2.2.1];exact Nat.le_refl _
 gE b:=by rw [(nU st s b).2.2.2.1];exact Nat.le_refl _
theorem Rel.iH {w0:World} {mu:Mu} {c:Cz} {st:St} {a:Act} {w:World} (h:Rel w0 mu c st a w) (s:Nat):Rel w0 mu (c.zX s) (iH st s) a w where
 je t:=by rw [(nU st s t).1];exact (Fw.iH c st w s).vi (h.je t)
 boxes b sl cs hs hb:=by
  rw [wP] at hs
  by_cases e:b=s
  ·rw [if_pos e] at hs
   cases hx:nth st b with
   |none=>rw [hx] at hs;cases hs
   |some x=>rw [hx] at hs;simp at hs;subst hs;cases hb
  ·rw [if_neg e] at hs;have h0:=h.boxes b sl cs hs hb;exact h0.go (Fw.iH c st w s) rfl (by rw [h0.1];exact Cz.Hj h0.1 (by intro e';injection e' with e';exact e e')) rfl
 bT b i sl A hs hb:=by
  rw [wP] at hs;have h0:fy c w b i A:=by
   by_cases e:b=s
   ·rw [if_pos e] at hs
    cases hx:nth st b with
    |none=>rw [hx] at hs;cases hs
    |some x=>rw [hx] at hs;simp at hs;subst hs;exact h.bT b i x A hx hb
   ·rw [if_neg e] at hs;exact h.bT b i sl A hs hb
  exact h0.go (Fw.iH c st w s).stays rfl fun k h1=>⟨rfl,by rw [h1];exact Cz.Hj h1 (by intro e;cases e)⟩
 owned b l hb:=h.owned b l (Cz.PE hb)
 free b hb h1:=by
  cases hc:c.own b with
  |none=>exact h.free b hb hc
  |some l=>
   rcases (h.owned b l hc).2 with h2 | h2 | h2
   ·subst h2;unfold Cz.zX at h1;simp [hc] at h1
   ·omega
   ·exact .inl h2
 kept:=h.kept
 old:=h.old
 hY p hp:=(Fw.iH c st w s).hY (h.hY p hp)
 plain:=h.plain
theorem Nh {w:World} {b:Nat} {vs:Array Value} {ty:TypeId} (h:w.heap[b]?=some (.cells vs ty (0,0))) {i:Nat} {v:Value} (hv:vs.toList[i]?=some v):w.cell? ⟨b,i,none⟩=some v:=by
 unfold World.cell?;simp [h];simpa using hv
theorem EJ (st:St) (b g:Nat) (r:RT) (x:aO r):(s:Nat)→nth (qg st b g r x) s=(nth st s).map fun z=>{ z with v:=rnV b g r x z.v }:=by
 unfold qg
 induction st with
 |nil=>intro s;rfl
 |cons y st ih=>intro s;cases s with
  |zero=>rfl
  |succ s=>exact ih s
theorem rE (st:St) (b g:Nat) (r:RT) (x:aO r) (s:Nat):dI (qg st b g r x) s=rnV b g r x (dI st s)∧gJ (qg st b g r x) s=gJ st s∧jW (qg st b g r x) s=jW st s∧wD (qg st b g r x) s=wD st s∧(∀j g',cE (qg st b g r x) s j g'=cE st s j g')∧∀g',fM (qg st b g r x) s g'=fM st s g':=by
 unfold dI gJ jW wD cE fM;rw [EJ]
 cases nth st s with
 |none=>exact ⟨rfl,rfl,rfl,rfl,fun _ _=>rfl,fun _=>rfl⟩
 |some z=>exact ⟨rfl,rfl,rfl,rfl,fun _ _=>rfl,fun _=>rfl⟩
theorem Fw.qg (c:Cz) (st:St) (w:World) (b g:Nat) (r:RT) (x:aO r):Fw c st w c (qg st b g r x) w where
 stays:=⟨Nat.le_refl _,fun _ _ _=>rfl,fun _ _ h=>h⟩
 refs a' j' g' A' _ iy:=⟨A',by rwa [(rE st b g r x a').2.2.2.2.1] at iy,rfl,rfl,rfl,fun _=>⟨rfl,fun _ _ _ _=>rfl⟩⟩
 G0 b' g' sj _ h:=⟨⟨sj,by rwa [(rE st b g r x b').2.2.2.2.2] at h⟩,rfl⟩
 gA s:=by rw [(rE st b g r x s).2.1];exact Nat.le_refl _
 gB s:=by rw [(rE st b g r x s).2.2.1];exact Nat.le_refl _
 gE s:=by rw [(rE st b g r x s).2.2.2.1];exact Nat.le_refl _
theorem Rel.qg {w0:World} {mu:Mu} {c:Cz} {st:St} {a:Act} {w:World} (h:Rel w0 mu c st a w) {b g:Nat} {r:RT} {x:aO r} (hp:∀t off,dI st t=.one (.ptr b g off)→qi c st w (.oZ r x off) (a.eval (.tmp t))):Rel w0 mu c (qg st b g r x) a w where
 je t:=by
  rw [(rE st b g r x t).1];have h0:=(Fw.qg c st w b g r x).vi (h.je t)
  cases hv:dI st t with
  |one cv=>cases cv with
   |ptr b' g' off=>
    rw [hv] at h0;show hU c (TM.qg st b g r x) w (bif Nat.beq b' b&&Nat.beq g' g then .one (.oZ r x off) else .one (.ptr b' g' off)) (a.eval (.tmp t))
    cases hb:Nat.beq b' b&&Nat.beq g' g with
    |false=>exact h0
    |true=>
     rw [Bool.and_eq_true] at hb;have e1:=Nat.eq_of_beq_eq_true hb.1;have e2:=Nat.eq_of_beq_eq_true hb.2;subst e1 e2;exact hp t off hv
   |_=>rw [hv] at h0;exact h0
  |agg _=>rw [hv] at h0;exact h0
  |qd _=>rw [hv] at h0;exact h0
 boxes s sl cs hs hb:=by
  rw [EJ] at hs;obtain ⟨z,hz,rfl⟩:=Option.map_eq_some_iff.1 hs;have h0:=h.boxes s z cs hz hb;exact h0.go (Fw.qg c st w b g r x) rfl (by rw [h0.1]) rfl
 bT s j sl A hs hA:=by
  rw [EJ] at hs;obtain ⟨z,hz,rfl⟩:=Option.map_eq_some_iff.1 hs;exact h.bT s j z A hz hA
 owned:=h.owned
 free:=h.free
 kept:=h.kept
 old:=h.old
 plain:=h.plain
 hY p hp:=(Fw.qg c st w b g r x).hY (h.hY p hp)
theorem Zh {w0:World} {mu:Mu} {c:Cz} {st bP:St} {a:Act} {w:World} (h:Rel w0 mu c st a w) {t:Nat} {r:RT} {ys:List (aO r)} (hc:Y2 st t=some (bP,⟨r,ys⟩)) :
  ∃c',Rel w0 mu c' bP a w∧Fw c st w c' bP w∧JY w c'.ok r (a.eval (.tmp t)) ys:=by
 have hx:=h.je t;unfold Y2 at hc
 split at hc
 ·rename_i r' x' off e;obtain ⟨h1,hc⟩:=bI hc;have h1:=Nat.eq_of_beq_eq_true h1;subst h1
  cases hc
  rw [e] at hx;obtain ⟨b,o,e1,e2,e3,e4⟩:=hx;refine ⟨c,h,Fw.refl c st w,b,o,e1,e2,e3,fun y hy => ?_⟩;simp at hy;subst hy;exact e4
 ·rename_i r' xs off e;obtain ⟨h1,hc⟩:=bI hc;have h1:=Nat.eq_of_beq_eq_true h1;subst h1
  cases hc
  rw [e] at hx;obtain ⟨b,o,e1,e2,e3,e4⟩:=hx;exact ⟨c,h,Fw.refl c st w,b,o,e1,e2,e3,e4⟩
 ·rename_i b g off e
  cases hb:fM st b g with
  |none=>rw [hb] at hc;cases hc
  |some cs=>
   rw [hb] at hc;simp only at hc;obtain ⟨h1,hc⟩:=bI hc;have h1:=Nat.eq_of_beq_eq_true h1;subst h1
   cases hp:fX cs with
   |none=>rw [hp] at hc;cases hc
   |some p=>
    obtain ⟨r0,x0⟩:=p;rw [hp] at hc
    cases hc
    rw [e] at hx;have hu:=hx.2.2 cs hb;obtain ⟨sl,G1,Su,G2⟩:=j5 hb;obtain ⟨ho,vs,ty,hh,hl⟩:=h.boxes b sl cs G1 G2;have G3:fx w (c.zX b).ok r (c.bx b) 0 x0:=by
     refine pV (Fw.iH c st w b).stays cs hp vs.toList 0 hl fun i v hv => ?_
     rw [Nat.zero_add];exact Nh hh hv
    refine ⟨_,(h.iH b).qg (fun t' avb hv => ?_),(Fw.iH c st w b).trans (Fw.qg _ _ w _ _ _ _),c.bx b,0,hu,h.yu ho,Cz.J6 ho,fun y hy => ?_⟩
    ·rw [(nU st b t').1] at hv;have h2:=h.je t';rw [hv] at h2;have hu2:=h2.2.2 cs hb;exact ⟨c.bx b,0,by rw [Nat.zero_add];exact hu2,h.yu ho,Cz.J6 ho,G3⟩
    ·simp at hy;subst hy;exact G3
 ·cases hc
theorem Ni {w0:World} {mu:Mu} {a:Act} {w:World}:(l:List Operand)→{c:Cz}→{st bP:St}→Rel w0 mu c st a w→{rs:RT}→{x:aO rs}→Cc st l=some (bP,⟨rs,x⟩)→
  ∃c',Rel w0 mu c' bP a w∧Fw c st w c' bP w∧yt w c'.ok rs (l.map a.eval) x
 | [],c,st,bP,h,rs,x,hc=>by
  unfold Cc at hc
  cases hc
  exact ⟨c,h,Fw.refl c st w,rfl⟩
 |.tmp t::l,c,st,bP,h,rs,x,hc=>by
  unfold Cc at hc
  cases h1:Y2 st t with
  |none=>rw [h1] at hc;cases hc
  |some p=>
   obtain ⟨G7,r,y⟩:=p;rw [h1] at hc;simp only at hc
   cases h2:Cc G7 l with
   |none=>rw [h2] at hc;cases hc
   |some p=>
    obtain ⟨lO,rs0,ys⟩:=p;rw [h2] at hc
    cases hc
    obtain ⟨c1,k1,k2,k3⟩:=Zh h h1;obtain ⟨c2,g1,g2,g3⟩:=Ni l k1 h2;exact ⟨c2,g1,k2.trans g2,_,_,rfl,k3.stays g2.stays,g3⟩
 |.const _::_,_,_,_,_,_,_,hc=>by simp [Cc] at hc
 |.func _::_,_,_,_,_,_,_,hc=>by simp [Cc] at hc
 |.global _::_,_,_,_,_,_,_,hc=>by simp [Cc] at hc
theorem Nj {c:Cz} {st:St} {w:World}:(rs:RT)→(vs:List Value)→(x:aO rs)→yt w c.ok rs vs x→(zW rs x).length=vs.length∧∀(k:Nat) v u,(zW rs x)[k]?=some v→vs[k]?=some u→hU c st w v u
 |.nil,vs,x,h=>by
  subst h;exact ⟨rfl,fun k v u hv=>by simp [zW] at hv⟩
 |.cons (.sl r) rs,vs,x,h=>by
  obtain ⟨v0,l,rfl,⟨b,o,e1,e2,e3,e4⟩,h2⟩:=h;obtain ⟨g1,g2⟩:=Nj (c:=c) (st:=st) rs l x.2 h2;refine ⟨by simp [zW,g1],fun k v u hv hu => ?_⟩
  cases k with
  |zero=>
   simp only [zW,List.getElem?_cons_zero,Option.some.injEq] at hv hu;subst hv hu;exact ⟨b,o,by rw [Nat.add_zero];exact e1,e2,e3,e4⟩
  |succ k=>exact g2 k v u (by simpa [zW] using hv) (by simpa using hu)
 |.cons (.int _) _,_,_,h=>h.elim
 |.cons .bool _,_,_,h=>h.elim
 |.cons .str _,_,_,h=>h.elim
end Go.TM
namespace Go.TM
open Go Go.RowKit
def AB (P:Program) (T:oB):Prop:=
 ∀t,T.eq t=true→∀(c:Cz) (st:St) (w:World) (l m:List CV) (us vs:Array Value) (b:Bool) (op:BinOp) (ox oy:Operand),T.fits t l=true→qe l m=some b→
  iO c st w l us.toList→iO c st w m vs.toList→∀w':World,(eqGuard op t ox oy (.agg us) (.agg vs)).run P w'=.ok () w'∧(Op.equal t (.agg us) (.agg vs)).run P w'=.ok b w'
def Cf (P:Program) (w0:World) (mu:Mu) (bP:St) (o:Oper) (a:Act) (w:World) (kp:Bool):Prop:=
 ∀Q:Exit→Act→World→Prop,o.wp P a w (fun a' w'=>(∃c',Rel w0 mu c' bP a' w'∧a'.tmps.size=a.tmps.size)∧(kp=true→lh w w')) Q
theorem vo (a:Act) (d:Option Tmp) (v:Value):(a.put d v).tmps.size=a.tmps.size:=by
 cases d<;>simp [Act.put]
theorem yx {P:Program} {w0:World} {mu:Mu} {c':Cz} {bP:St} {o:Oper} {a:Act} {w w':World} {v:Value} {kp:Bool} (hr:(execOp a.eval o).run P w=.ok (.value v) w') (h:Rel w0 mu c' bP (a.put o.dst v) w') (hk:kp=true→lh w w') :
  Cf P w0 mu bP o a w kp:=by
 intro Q;unfold Oper.wp;rw [hr];exact ⟨⟨c',h,vo a _ _⟩,hk⟩
theorem vp {P:Program} {s:Sem Value} {w w':World} {v:Value} (h:s.run P w=.ok v w'):(do pure (Next.value (←s)):Sem Next).run P w=.ok (.value v) w':=by
 simp [Sem.run_bind,h]
theorem Nk {w0:World} {mu:Mu} {c:Cz} {st:St} {a:Act} {w:World} (h:Rel w0 mu c st a w) (parts:Array (Nat×Operand)) :
  sH c st w (parts.toList.map fun p=>(p.1,pS st p.2)) (parts.map fun (i,x)=>(i,a.eval x)).toList:=by
 refine ⟨by simp,fun i p u hp hu => ?_⟩;simp only [List.getElem?_map,Array.toList_map] at hp hu
 cases hq:parts.toList[i]? with
 |none=>simp [hq] at hp
 |some q=>
  simp only [hq,Option.map_some,Option.some.injEq] at hp hu;subst hp hu;exact ⟨rfl,cR h q.2⟩
theorem aaF {w0:World} {mu:Mu} {c:Cz} {st:St} {a:Act} {w:World} (h:Rel w0 mu c st a w) (x:Option Operand):Ng c st w (x.map (pS st)) (x.map a.eval):=by
 cases x with
 |none=>rfl
 |some x=>exact ⟨_,rfl,cR h x⟩
theorem SE {P:Program} {w:World} {ok:Nat→Prop} {u:Value} {ys:List (aO (.cons (.int .u8) .nil))} (h:RdS w ok (.cons (.int .u8) .nil) u ys):(Conv.bytesToString u).run P w=.ok (.string (bytesOf ys)) w:=by
 rcases h with ⟨rfl,rfl⟩ | ⟨a,cap,rfl,hs,hr⟩
 ·rfl
 ·have key:=run_bytesToString (P:=P) w a ys.length cap (ys.map Rh) (by
   have h1:((ys.map Rh).map (Value.int .u8)).length=ys.length:=by simp
   have h2:=run_loadCells_list (P:=P) (w:=w) a ((ys.map Rh).map (Value.int .u8)) (by
    intro j v hv;rw [List.map_map,List.getElem?_map] at hv
    cases hy:ys[j]? with
    |none=>rw [hy] at hv;cases hv
    |some y=>
     rw [hy] at hv;simp only [Option.map_some,Option.some.injEq,Function.comp] at hv;subst hv;have h3:=hr j y hy;unfold fx at h3;obtain ⟨⟨v,h4,h5⟩,_⟩:=h3;have h5:=yr.1 h5;subst h5;have mU:ys≠[]:=by intro e;rw [e] at hy;simp at hy
     have Pg:=hs mU;have e:a.add j=⟨a.block,a.off+j*(RT.cons (.int .u8) .nil).width,none⟩:=by
      simp only [RT.width,Nat.zero_add,Nat.mul_one];unfold Addr.add
      split
      ·rename_i h0;subst h0;obtain ⟨b,o,s⟩:=a;simp at Pg;subst Pg;rfl
      ·rfl
     rw [e];exact h4)
   rw [h1] at h2;exact h2)
  rw [key]
  congr 2
  unfold bytesOf;rw [List.foldl_map]
def Op.PF:Op→Bool
 |.call { callee:=.value (.func _),.. }=>true
 |.call { callee:=.value (.tmp _),.. }=>true
 |_=>false
theorem Nl {c:Cz} {st:St} {w:World} {x:V} {v:Value} (h:Db c st w x v):hU c st w x v:=by
 cases x with
 |one _=>exact h
 |agg _=>exact h
 |qd _=>exact h.elim
theorem Ro {P:Program} {T:oB} (hT:jF P T) (hE:AB P T) {S:mS} {w0:World} {mu:Mu} {c:Cz} {st:St} {a:Act} {w:World} (h:Rel w0 mu c st a w) {o:Oper} (hk:kindOk S st o .any=true)
  {bP:St} (hv:(Ri T S st o).val=some bP) (hd:∀k,o.dst=some k→k<a.tmps.size):∃v,(∀w':World,(execOp a.eval o).run P w'=.ok (.value v) w')∧Rel w0 mu c bP (a.put o.dst v) w:=by
 have one:∀(v:Value),Rel w0 mu c bP (a.put o.dst v) w→(∀w':World,(execOp a.eval o).run P w'=.ok (.value v) w')→∃v,(∀w':World,(execOp a.eval o).run P w'=.ok (.value v) w')∧Rel w0 mu c bP (a.put o.dst v) w:=
  fun v h1 h2=>⟨v,h2,h1⟩
 unfold Ri at hv;unfold kindOk at hk
 cases ho:o.op with
 |move x=>
  simp only [ho,N.val,Option.some.injEq] at hv;subst hv;exact one _ (h.bQ (cR h x) hd) (fun w'=>by simp [execOp,ho])
 |assign x=>
  simp only [ho,N.val,Option.some.injEq] at hv;subst hv;exact one _ (h.bQ (cR h x) hd) (fun w'=>by simp [execOp,ho])
 |pick x y z=>
  simp only [ho] at hv;have hx:=cR h x
  cases hq:pS st x with
  |agg _=>simp [hq,N.val] at hv
  |qd _=>simp [hq,N.val] at hv
  |one cx=>cases cx with
   |bool b=>
    rw [hq] at hx;have e:a.eval x=.bool b:=hx;simp only [hq] at hv;rcases xN hv with ⟨hb,Hc⟩ | ⟨hb,Hc⟩
    ·simp only [N.val,Option.some.injEq] at Hc;rw [←Hc] at one ⊢;subst hb;exact one _ (h.bQ (cR h y) hd) (fun w'=>by simp [execOp,ho,e,asBool])
    ·simp only [N.val,Option.some.injEq] at Hc;rw [←Hc] at one ⊢;subst hb;exact one _ (h.bQ (cR h z) hd) (fun w'=>by simp [execOp,ho,e,asBool])
   |_=>simp [hq,N.val] at hv
 |build t parts=>
  simp only [ho] at hv
  cases hr:T.row t with
  |none=>simp [hr,N.val] at hv
  |some r=>cases hg:T.agg t with
   |false=>simp [hr,hg,N.val] at hv
   |true=>
    simp only [hr,hg] at hv
    cases hfc:rB T t (ru r) (parts.toList.map fun p=>(p.1,pS st p.2)) with
    |none=>simp [hfc,N.val] at hv
    |some cs=>
     simp only [hfc,N.val,Option.some.injEq] at hv;subst hv;obtain ⟨v,h1,h2⟩:=Vo hT h hr hg (Nk h parts) hfc hd;exact one v (h2) (fun w'=>by simp only [execOp,ho];exact vp (h1 w'))
 |nilCheck x=>
  simp only [ho] at hv;have hx:=cR h x
  cases hq:pS st x with
  |agg _=>simp [hq,N.val] at hv
  |qd _=>simp [hq,N.val] at hv
  |one cx=>cases cx with
   |ptr b g off=>
    rw [hq] at hx;simp only [hq] at hv
    cases G8:fM st b g with
    |none=>simp [G8,N.val] at hv
    |some cs=>
     simp only [G8,N.val,Option.some.injEq] at hv;subst hv;have e:=hx.2.2 cs G8;exact one _ (h.bQ (v:=.one (.ptr b g off)) hx hd) (fun w'=>by simp [execOp,ho,e])
   |M6 a' j g i off=>
    rw [hq] at hx;simp only [hq] at hv
    cases hA:cE st a' j g with
    |none=>simp [hA,N.val] at hv
    |some A=>
     simp only [hA,N.val,Option.some.injEq] at hv;subst hv;obtain ⟨_,b,o',cap,_,e⟩:=hx.2.2 A hA;exact one _ (h.bQ (v:=.one (.M6 a' j g i off)) hx hd) (fun w'=>by simp [execOp,ho,e])
   |_=>simp [hq,N.val] at hv
 |binOp op t x y t2=>
  simp only [ho] at hv;obtain ⟨v,h1,h2⟩:=Ze hT h (fun t ht l m us vs b op ox oy=>hE t ht c st w l m us vs b op ox oy) (ox:=x) (oy:=y) (cR h x) (cR h y) hv hd;exact one v (h2) (fun w'=>by simp only [execOp,ho];exact vp (h1 w'))
 |unOp op t x=>
  cases op with
  |not=>
   simp only [ho] at hv;have hx:=cR h x
   cases hq:pS st x with
   |agg _=>simp [hq,N.val] at hv
   |qd _=>simp [hq,N.val] at hv
   |one cx=>cases cx with
    |bool b=>
     rw [hq] at hx;have e:a.eval x=.bool b:=hx;simp only [hq,N.val,Option.some.injEq] at hv;subst hv;exact one (.bool (!b)) (h.bQ (v:=.one (.bool (!b))) rfl hd) (fun w'=>by simp [execOp,ho,e,Op.unary])
    |_=>simp [hq,N.val] at hv
  |_=>simp [ho,N.val] at hv
 |convert t1 t2 x=>
  simp only [ho] at hv;have hx:=cR h x
  split at hv
  ·rename_i k1 k2 k n h1 h2 hq;rw [hq] at hx;have e:a.eval x=.int k n:=hx;simp only [N.val,Option.some.injEq] at hv;subst hv;obtain ⟨d1,g1,_⟩:=hT.kind _ _ h1;obtain ⟨d2,g2,e2⟩:=hT.kind _ _ h2;simp only [descOf] at e2;subst e2;refine one (.int k2 (k2.wrap n)) (h.bQ (v:=.one (.int k2 (k2.wrap n))) rfl hd) (fun w' => ?_);simp only [execOp,ho];refine vp ?_;simp [convert,run_underlying g1,run_underlying g2,e,Conv.intToInt]
  ·rename_i b h1 h2 hq;rw [hq] at hx;have e:a.eval x=.string b:=hx;simp only [N.val,Option.some.injEq] at hv;subst hv;obtain ⟨d1,g1,e1⟩:=hT.kind _ _ h1;obtain ⟨d2,g2,e2⟩:=hT.kind _ _ h2;simp only [descOf] at e2 e1;subst e2 e1;refine one (.string b) (h.bQ (v:=.one (.str b)) rfl hd) (fun w' => ?_);simp only [execOp,ho];refine vp ?_;simp [convert,run_underlying g1,run_underlying g2,e]
  ·rename_i cx _ _ hq;rw [ho] at hk;simp only [hq] at hk
   split at hv
   ·cases cx<;>first | (simp [o7,N.val] at hv;done) | (simp at hk;done)
   ·simp [N.val] at hv
  ·simp [N.val] at hv
 |slice t x lo hi mx=>
  cases mx with
  |some _=>simp [ho,N.val] at hv
  |none=>
   simp only [ho] at hv;obtain ⟨v,h1,h2⟩:=SB hT h (cR h x) (aaF h lo) (aaF h hi) hv hd;exact one v (h2) (fun w'=>by simp only [execOp,ho];exact vp (h1 w'))
 |fieldAddr t x f=>
  simp only [ho] at hv;have hx:=cR h x;have place:∀(b q k:Nat),T.off t f=some k→a.eval x=.pointer (some ⟨b,q,none⟩)→∀w':World,(execOp a.eval o).run P w'=.ok (.value (.pointer (some ⟨b,q+k,none⟩))) w':=by
   intro b q k hk e w';obtain ⟨fs,J0,n,g1,g2,g3,g4⟩:=hT.off t f k hk
   cases hi:P.info? J0.type with
   |none=>simp [hi] at g4
   |some i=>
    simp only [hi,Option.map_some,Option.some.injEq] at g4;simp only [execOp,ho];refine vp ?_;subst g3;simp [Instr.fieldAt,run_underlying g1,g2,e,Instr.sureAddr,fieldPlace,sizeOf,typeInfo,hi,g4,Addr.add]
  split at hv
  ·rename_i b g off k hq hk;rw [hq] at hx
   cases G8:fM st b g with
   |none=>simp [G8,N.val] at hv
   |some cs=>
    simp only [G8,N.val,Option.some.injEq] at hv;subst hv;have e:=hx.2.2 cs G8;refine one (.pointer (some ⟨c.bx b,off+k,none⟩)) (h.bQ (v:=.one (.ptr b g (off+k))) ⟨rfl,hx.2.1,fun sj Pw=>rfl⟩ hd) (place _ _ k hk e)
  ·rename_i a' j g i off k hq hk;rw [hq] at hx
   cases hA:cE st a' j g with
   |none=>simp [hA,N.val] at hv
   |some A=>
    simp only [hA,N.val,Option.some.injEq] at hv;subst hv;obtain ⟨hi,b,o',cap,hl,e⟩:=hx.2.2 A hA;refine one (.pointer (some ⟨b,o'+i*A.r.width+off+k,none⟩)) (h.bQ (v:=.one (.M6 a' j g i (off+k))) ⟨rfl,hx.2.1,fun A' iy => ?_⟩ hd) (place _ _ k hk e);rw [hA] at iy
    cases iy
    exact ⟨hi,b,o',cap,hl,by rw [Nat.add_assoc]⟩
  ·rename_i r y off k hq hk;rw [hq] at hx;simp only [N.val,Option.some.injEq] at hv;subst hv;obtain ⟨b,o',e,h1,h2,h3⟩:=hx;exact one (.pointer (some ⟨b,o'+off+k,none⟩)) (h.bQ (v:=.one (.oZ r y (off+k))) ⟨b,o',by rw [Nat.add_assoc],h1,h2,h3⟩ hd) (place _ _ k hk e)
  ·rename_i r ys off k hq hk;rw [hq] at hx;simp only [N.val,Option.some.injEq] at hv;subst hv;obtain ⟨b,o',e,h1,h2,h3⟩:=hx;exact one (.pointer (some ⟨b,o'+off+k,none⟩)) (h.bQ (v:=.one (.xJ r ys (off+k))) ⟨b,o',by rw [Nat.add_assoc],h1,h2,h3⟩ hd) (place _ _ k hk e)
  ·simp [N.val] at hv
 |indexAddr t x i=>
  simp only [ho] at hv;obtain ⟨v,h1,h2⟩:=Sy hT h (cR h x) (cR h i) hv hd;exact one v (h2) (fun w'=>by simp only [execOp,ho];exact vp (h1 w'))
 |index t x i=>
  simp only [ho] at hv;have hx:=cR h x;have hi:=cR h i
  split at hv
  ·rename_i s k n h1 Vs Nd;rw [Vs] at hx;rw [Nd] at hi;have e1:a.eval x=.string s:=hx;have e2:a.eval i=.int k n:=hi;obtain ⟨Py,hv⟩:=jG hv;obtain ⟨hn1,hv⟩:=jG hv;have Py:=of_decide_eq_true Py;have hn1:=of_decide_eq_true hn1;simp only [N.val,Option.some.injEq] at hv;subst hv;obtain ⟨d1,g1,e3⟩:=hT.kind _ _ h1;simp only [descOf] at e3;subst e3;have dO:n.toNat<s.size:=by omega
   have hb:s[n.toNat]?=some s[n.toNat]:=getElem?_pos s n.toNat dO;refine one (.int .u8 (LK s n)) (h.bQ (v:=.one (.int .u8 (LK s n))) rfl hd) (fun w' => ?_);simp only [execOp,ho];refine vp ?_;simp [Instr.index,e1,e2,asIntOf,run_underlying g1,Py,hb,LK]
  ·simp [N.val] at hv
 |field t x f=>
  simp only [ho] at hv;have hx:=cR h x
  cases hq:pS st x with
  |one _=>simp [hq,N.val] at hv
  |qd _=>simp [hq,N.val] at hv
  |agg cs=>
   rw [hq] at hx;simp only [hq] at hv
   cases Jf:T.off t f with
   |none=>simp [Jf,N.val] at hv
   |some k=>
    simp only [Jf] at hv;obtain ⟨h1,hv⟩:=jt hv
    cases hn:nth cs k with
    |none=>simp [hn,N.val] at hv
    |some u=>
     simp only [hn,N.val,Option.some.injEq] at hv;subst hv;obtain ⟨vs,e,hl,he⟩:=hx;rw [nt] at hn;have dO:k<vs.size:=by rw [←Array.length_toList,←hl];exact (List.getElem?_eq_some_iff.1 hn).1
     have hg:vs[k]?=some vs[k]:=Array.getElem?_eq_getElem dO;obtain ⟨fs,J0,d1,g1,g2,g3,g4⟩:=hT.one t f h1;obtain ⟨fs',avd,_,g1',g2',g5,_⟩:=hT.off t f k Jf;rw [g1] at g1';injection g1' with g1';injection g1' with g1';subst g1';rw [g2] at g2';injection g2' with g2';subst g2';refine one vs[k] (h.bQ (v:=.one u) (he k u _ hn (by rw [Array.getElem?_toList];exact hg)) hd) (fun w' => ?_);simp only [execOp,ho];refine vp ?_;have abU:(isAgg J0.type).run P w'=.ok false w':=by
      unfold isAgg;rw [Sem.run_bind,run_underlying g3 w']
      cases d1<;>simp_all [TypeDesc.isRow]
     simp [Instr.field,e,run_underlying g1,g2,part,asAgg,abU,g5,hg]
 |extract t i=>
  simp only [ho] at hv;have hx:=cR h t
  cases hq:pS st t with
  |one _=>simp [hq,N.val] at hv
  |agg _=>simp [hq,N.val] at hv
  |qd vs=>
   rw [hq] at hx;simp only [hq] at hv
   cases hn:nth vs i with
   |none=>simp [hn,N.val] at hv
   |some u=>
    simp only [hn,N.val,Option.some.injEq] at hv;subst hv;obtain ⟨us,e,hl,he⟩:=hx;rw [nt] at hn;have dO:i<us.size:=by rw [←hl];exact (List.getElem?_eq_some_iff.1 hn).1
    have hg:us[i]?=some us[i]:=Array.getElem?_eq_getElem dO;refine one us[i] (h.bQ (Nl (he i u _ hn hg)) hd) (fun w' => ?_);simp only [execOp,ho];refine vp ?_;simp [Instr.extract,e,hg]
 |call cl=>
  obtain ⟨callee,args,UN⟩:=cl
  cases callee with
  |invoke r n=>simp [ho,N.val] at hv
  |value x=>
   cases x with
   |func f=>simp [ho] at hk
   |tmp f=>simp [ho] at hk
   |_=>simp [ho,N.val] at hv
  |builtin b=>
   have hx:=fun x=>cR h x
   simp only [ho] at hv;have Rp:∀x y,args.toList=[x,y]→args = #[x,y]:=fun x y e=>by rw [←Array.toArray_toList (xs:=args),e]
   split at hv
   ·rename_i x t ha ht;have ha:args = #[x]:=by rw [←Array.toArray_toList (xs:=args),ha]
    have ht:UN = #[t]:=by rw [←Array.toArray_toList (xs:=UN),ht]
    subst ha ht;obtain ⟨v,h1,h2⟩:=Zf (ty:=o.type) hT h (cR h x) hv hd;exact one v (h2) (fun w'=>by simp only [execOp,ho];simp [resolve,invoke,builtin,Sem.run_bind,h1 w'])
   ·rename_i x y t u ha ht;simp [ho] at hk
   ·rename_i ts x y ha;have ha:=Rp x y ha;subst ha
    split at hv
    ·rename_i k p l q Vs Nd;have e1:=cR h x;have e2:=cR h y;rw [Vs] at e1;rw [Nd] at e2;have e1:a.eval x=.int k p:=e1;have e2:a.eval y=.int l q:=e2;simp only [N.val,Option.some.injEq] at hv;subst hv;exact one _ (h.bQ (v:=.one (.int k (if q<p then q else p))) (u:=.int k (if q<p then q else p)) rfl hd) (fun w'=>by simp only [execOp,ho];simp [resolve,invoke,builtin,Sem.run_bind,Builtin.min_,Builtin.min2,e1,e2])
    ·simp [N.val] at hv
   ·rename_i ts x y ha;have ha:=Rp x y ha;subst ha
    split at hv
    ·rename_i k p l q Vs Nd;have e1:=cR h x;have e2:=cR h y;rw [Vs] at e1;rw [Nd] at e2;have e1:a.eval x=.int k p:=e1;have e2:a.eval y=.int l q:=e2;simp only [N.val,Option.some.injEq] at hv;subst hv;exact one _ (h.bQ (v:=.one (.int k (if q>p then q else p))) (u:=.int k (if q>p then q else p)) rfl hd) (fun w'=>by simp only [execOp,ho];simp [resolve,invoke,builtin,Sem.run_bind,Builtin.max_,Builtin.max2,e1,e2])
    ·simp [N.val] at hv
   ·rename_i ts x y z ha;have ha:args = #[x,y,z]:=by rw [←Array.toArray_toList (xs:=args),ha]
    subst ha
    split at hv
    ·rename_i k p l q m s Vs Nd hq3;have e1:=cR h x;have e2:=cR h y;have e3:=cR h z;rw [Vs] at e1;rw [Nd] at e2;rw [hq3] at e3;have e1:a.eval x=.int k p:=e1;have e2:a.eval y=.int l q:=e2;have e3:a.eval z=.int m s:=e3;simp only [N.val,Option.some.injEq] at hv;subst hv;exact one _ (h.bQ (v:=.one (.int k (if s<(if q<p then q else p) then s else (if q<p then q else p)))) (u:=.int k (if s<(if q<p then q else p) then s else (if q<p then q else p))) rfl hd) (fun w'=>by simp only [execOp,ho];simp [resolve,invoke,builtin,Sem.run_bind,Builtin.min_,Builtin.min2,e1,e2,e3])
    ·simp [N.val] at hv
   ·simp [ho] at hk
   ·simp [N.val] at hv
 |_=>simp [ho] at hk
theorem ab8 {P:Program} {T:oB} (hT:jF P T) (hE:AB P T) {S:mS} {w0:World} {mu:Mu} {c:Cz} {st:St} {a:Act} {w:World} (h:Rel w0 mu c st a w) {o:Oper} (hf:Op.PF o.op=false)
  {bP:St} (hv:(Ri T S st o).val=some bP) (hd:∀k,o.dst=some k→k<a.tmps.size):Cf P w0 mu bP o a w (kindOk S st o .one):=by
 by_cases hp:kindOk S st o .any=true
 ·obtain ⟨v,h1,h2⟩:=Ro hT hE h hp hv hd;exact yx (h1 w) h2 (fun _=>lh.refl w)
 have one:∀(v:Value) (w':World),(∃c',Rel w0 mu c' bP (a.put o.dst v) w')→lh w w'→(execOp a.eval o).run P w=.ok (.value v) w'→Cf P w0 mu bP o a w (kindOk S st o .one):=
  fun v w' ⟨c',h'⟩ hk hr=>yx hr h' (fun _=>hk)
 unfold kindOk at hp;unfold Ri at hv
 cases ho:o.op with
 |alloc t=>
  simp only [ho] at hv
  cases hr:T.row t with
  |none=>simp [hr,N.val] at hv
  |some r=>
   simp only [hr] at hv;obtain ⟨k,s0,hk,mV,rfl⟩:=FL hv;obtain ⟨i,z,hi,hz,Pf⟩:=hT.row t r hr;refine one _ _ ⟨_,hk▸h.kL (ty:=t) mV (hd k hk) (AA Pf)⟩ (lh.alloc _ _) ?_;simp [execOp,ho,Instr.alloc,zeroValue,typeInfo,hi,hz,newVar,newRow]
 |box t x=>
  simp only [ho] at hv
  cases hn:T.cells t with
  |none=>simp [hn,N.val] at hv
  |some n=>
   simp only [hn] at hv;obtain ⟨hc,hv⟩:=jt hv;rw [Bool.and_eq_true] at hc;obtain ⟨Az,_⟩:=(cR h x).cells hc.1
   cases lJ:(bif T.cap t then fX (pS st x).cells else none) with
   |none=>
    rw [lJ] at hv;obtain ⟨k,s0,hk,mV,rfl⟩:=FL hv;refine one _ _ ⟨_,hk▸h.kL (ty:=t) mV (hd k hk) Az⟩ (lh.alloc _ _) ?_;simp [execOp,ho,Instr.box,newVar,newRow]
   |some p=>
    obtain ⟨r,y⟩:=p;rw [lJ] at hv;simp only [N.val,Option.some.injEq] at hv;subst hv;have hp2:fX (pS st x).cells=some ⟨r,y⟩:=by
     cases hcp:T.cap t with
     |true=>rw [hcp] at lJ;exact lJ
     |false=>rw [hcp] at lJ;cases lJ
    have Hk:c.ok w.heap.size:=by
     unfold Cz.ok
     cases hq:c.own w.heap.size with
     |none=>rfl
     |some l=>exact absurd (h.owned _ l hq).1 (Nat.lt_irrefl _)
    have Cm:hU c st (w.alloc (.cells (a.eval x).cells t (0,0))) (.one (.oZ r y 0)) (.pointer (some ⟨w.heap.size,0,none⟩)):=
     ⟨w.heap.size,0,rfl,by simp,Hk,pV (Fw.grow h _).stays _ hp2 _ 0 Az fun i v hv=>by
      rw [Nat.zero_add];exact Nh (heap_alloc_new w _) hv⟩
    refine one (.pointer (some ⟨w.heap.size,0,none⟩)) (w.alloc (.cells (a.eval x).cells t (0,0))) ⟨c,(h.grow _).bQ Cm hd⟩ (lh.alloc _ _) ?_;simp [execOp,ho,Instr.box,newVar,newRow]
 |makeFunc fn first BT=>
  cases fn with
  |func g=>
   simp only [ho] at hv;obtain ⟨anw,hv⟩:=jt hv
   cases hc:Cc st BT.toList with
   |none=>simp [hc,N.val] at hv
   |some p=>
    obtain ⟨G7,rs,x⟩:=p;rw [hc] at hv;simp only [N.val,Option.some.injEq] at hv;subst hv;obtain ⟨c1,h1,h2,h3⟩:=Ni _ h hc;have hf0:first = #[]:=by simpa using anw
    subst hf0;have Cm:hU c1 G7 w (.one (.fn g rs [x])) (.func (.func g) #[] (BT.map a.eval)):=
     ⟨_,rfl,fun y hy=>by
      simp at hy;subst hy;rw [Array.toList_map];exact h3⟩
    exact one _ w ⟨c1,h1.bQ Cm hd⟩ (lh.refl w) (by simp [execOp,ho,Instr.makeFunc])
  |_=>simp [ho,N.val] at hv
 |buildSlice t len parts=>
  simp only [ho] at hv;obtain ⟨v,w',h1,Zi,c',h2⟩:=Hh hT h (Nk h parts) hv hd;exact one v w' ⟨c',h2⟩ Zi (by simp only [execOp,ho];exact vp h1)
 |makeSlice t l cp=>
  simp only [ho] at hv;obtain ⟨v,w',h1,Zi,c',h2⟩:=Vm hT h (cR h l) (cR h cp) hv hd;exact one v w' ⟨c',h2⟩ Zi (by simp only [execOp,ho];exact vp h1)
 |load t x=>
  simp only [ho] at hv;obtain ⟨v,h1,h2⟩:=M7 hT h (cR h x) hv hd;exact one v w ⟨c,h2⟩ (lh.refl w) (by simp only [execOp,ho];exact vp (h1 w (lh.refl w)))
 |store t x y=>
  simp only [ho] at hv
  cases wF:o.dst with
  |some _=>simp [wF,N.val] at hv
  |none=>
   simp only [wF] at hv;obtain ⟨w',h1,c',h2⟩:=Sx hT h (cR h x) (cR h y) hv;intro Q;have hr:(execOp a.eval o).run P w=.ok .skip w':=by simp [execOp,ho,Sem.run_bind,h1]
   unfold Oper.wp;rw [hr];refine ⟨⟨c',?_,vo a _ _⟩,fun hk => ?_⟩
   ·rw [wF];exact h2
   ·simp [kindOk,ho] at hk
 |call cl=>
  obtain ⟨callee,args,UN⟩:=cl
  cases callee with
  |invoke r n=>simp [ho,N.val] at hv
  |value x=>
   cases x with
   |func f=>simp [ho,Op.PF] at hf
   |tmp f=>simp [ho,Op.PF] at hf
   |_=>simp [ho,N.val] at hv
  |builtin b=>
   simp only [ho] at hv;have Rp:∀x y,args.toList=[x,y]→args = #[x,y]:=fun x y e=>by rw [←Array.toArray_toList (xs:=args),e]
   split at hv
   ·simp [ho] at hp
   ·rename_i x y t u ha ht;obtain ⟨htu,Hc⟩:=jt hv;have htu:=Nat.eq_of_beq_eq_true htu;subst htu;have ha:=Rp x y ha;have ht:UN = #[t,t]:=by rw [←Array.toArray_toList (xs:=UN),ht]
    subst ha ht;obtain ⟨v,w',h1,c',h2⟩:=PB (ty:=o.type) hT h (cR h x) (cR h y) Hc hd;exact yx (c':=c') (by simp only [execOp,ho];simp [resolve,invoke,builtin,Sem.run_bind,h1]) h2 (fun hk=>by simp [kindOk,ho] at hk)
   ·simp [ho] at hp
   ·simp [ho] at hp
   ·simp [ho] at hp
   ·rename_i x t ha ht;have ha:args = #[x]:=by rw [←Array.toArray_toList (xs:=args),ha]
    have ht:UN = #[t]:=by rw [←Array.toArray_toList (xs:=UN),ht]
    subst ha ht
    cases wF:o.dst with
    |some _=>simp [wF,N.val] at hv
    |none=>
     simp only [wF] at hv;obtain ⟨w',h1,c',h2⟩:=SC (ty:=o.type) hT h (cR h x) hv;have hr:(execOp a.eval o).run P w=.ok (.value (.tuple #[])) w':=by simp only [execOp,ho];simp [resolve,invoke,builtin,Sem.run_bind,h1]
     exact yx (c':=c') hr (by rw [wF];exact h2) (fun hk=>by simp [kindOk,ho] at hk)
   ·simp [N.val] at hv
 |move _=>simp [ho] at hp
 |assign _=>simp [ho] at hp
 |pick _ _ _=>simp [ho] at hp
 |build _ _=>simp [ho] at hp
 |nilCheck _=>simp [ho] at hp
 |binOp _ _ _ _ _=>simp [ho] at hp
 |unOp _ _ _=>simp [ho] at hp
 |convert t1 t2 x=>
  simp only [ho] at hv hp;have hx:=cR h x
  split at hv
  ·rename_i hq;simp [hq] at hp
  ·rename_i hq;simp [hq] at hp
  ·rename_i cx h1 h2 hq
   split at hv
   ·rename_i b he;rw [hq] at hx;obtain ⟨ys,h3,h4⟩:=FK h hx hv;simp only [N.val,Option.some.injEq] at h3;subst h3;obtain ⟨e,i,z,g1,g2,g3,g4,g5,_⟩:=hT.elem _ _ _ he;obtain ⟨d2,q2,e2⟩:=hT.kind _ _ h2;simp only [descOf] at e2;subst e2;have hu8:P.underlying e=some (.int .u8):=hT.u8 t1 e b he g1;have hr:=SE (P:=P) h4;refine one (.string (bytesOf ys)) w ⟨c,h.bQ (v:=.one (.str (bytesOf ys))) rfl hd⟩ (lh.refl w) ?_;simp only [execOp,ho];refine vp ?_;rcases h4 with ⟨hn,_⟩ | ⟨a0,cap,hn,_⟩
    ·rw [hn] at hr ⊢;rw [run_convert_bytes_string w t1 t2 e none 0 0 g1 hu8 q2];exact hr
    ·rw [hn] at hr ⊢;rw [run_convert_bytes_string w t1 t2 e (some a0) _ cap g1 hu8 q2];exact hr
   ·simp [N.val] at hv
  ·simp [N.val] at hv
 |slice _ _ _ _ _=>simp [ho] at hp
 |fieldAddr _ _ _=>simp [ho] at hp
 |indexAddr _ _ _=>simp [ho] at hp
 |index _ _ _=>simp [ho] at hp
 |extract _ _=>simp [ho] at hp
 |field _ _ _=>simp [ho] at hp
 |_=>simp [ho,N.val] at hv
end Go.TM
namespace Go.TM
open Go Go.RowKit
def wQ (P:Program) (T:oB) (S:mS) (w0:World) (mu:Mu) (n:Nat):Prop:=
 ∀ {c:Cz} {st bP:St} {a:Act} {w:World} {o:Oper},Rel w0 mu c st a w→a.tmps.size=n→(∀k,o.dst=some k→k<n)→(Ri T S st o).val=some bP→Cf P w0 mu bP o a w (kindOk S st o .one)
theorem Hl (a:Act) (d:Nat) (v:Value) (hd:d<a.tmps.size) (h:a.eval (.tmp d)=v):a.put (some d) v=a:=by
 obtain ⟨tm,df⟩:=a;simp only [Act.put,Act.mk.injEq,and_true];simp only [Act.eval,Array.getD_eq_getD_getElem?,Array.getElem?_eq_getElem hd,Option.getD_some] at h;apply Array.ext
 ·simp
 ·intro i h1 h2;rw [Array.getElem_setIfInBounds h2]
  split
  ·rename_i e;subst e;exact h.symm
  ·rfl
theorem Bz {w0:World} {mu:Mu} {c:Cz} {st:St} {a:Act} {w:World} (h:Rel w0 mu c st a w) {d:Nat} {b:Bool} (hg:dI st d=.one (.bool b)) :
  d<a.tmps.size∧a.eval (.tmp d)=.bool b:=by
 have h1:=h.je d;rw [hg] at h1;have h1:a.eval (.tmp d)=.bool b:=h1;refine ⟨?_,h1⟩;rcases Nat.lt_or_ge d a.tmps.size with h2 | h2
 ·exact h2
 ·simp [Act.eval,Array.getD_eq_getD_getElem?,Array.getElem?_eq_none h2,undef] at h1
theorem Rel.aip {w0:World} {mu:Mu} {c:Cz} {st:St} {a:Act} {w:World} (h:Rel w0 mu c st a w) {d:Nat} {b:Bool} (hg:dI st d=.one (.bool b)) :
  Rel w0 mu c (TM.bQ st (some d) (.one (.bool b))) a w:=by
 obtain ⟨h1,h2⟩:=Bz h hg;have:=h.bQ (d:=some d) (v:=.one (.bool b)) (u:=.bool b) rfl (fun t e=>by cases e;exact h1)
 rwa [Hl a d _ h1 h2] at this
theorem Hm {ops:Array Oper} {a:Act} {j d:Nat} {b:Bool} (hj:(nth ops.toList j).bind (·.dst)=some d) (hd:d<a.tmps.size) (h:a.eval (.tmp d)=.bool b):yielded ops a.tmps j=some b:=by
 rw [nt,Array.getElem?_toList] at hj;unfold yielded;rw [hj];simp only [Act.eval,Array.getD_eq_getD_getElem?,Array.getElem?_eq_getElem hd,Option.getD_some] at h;simp [Array.getElem?_eq_getElem hd,h]
theorem BA:(st:St)→(d:Nat)→{v:V}→dI st d=v→TM.bQ st (some d) v=st
 | [],_,_,_=>rfl
 |s::l,0,v,h=>by
  have h:s.v=v:=h;subst h;rfl
 |s::l,d+1,v,h=>congrArg (s :: ·) (BA l d h)
theorem Nn {S:mS} {st:St} {o:Oper} {d:Nat} {b:Bool} {k:Kd} (h:dI st d=.one (.bool b)):kindOk S (TM.bQ st (some d) (.one (.bool b))) o k=kindOk S st o k:=by
 rw [BA st d h]
theorem BB (c:Cz) (st:St) (w:World):hU c st w (.qd []) undef:=⟨#[],rfl,rfl,fun i x y hx=>by simp at hx⟩
theorem Cg {ops:Array Oper} {a:Act} {j d:Nat} (hj:(nth ops.toList j).bind (·.dst)=some d) (h:a.eval (.tmp d)=undef):yielded ops a.tmps j=none:=by
 rw [nt,Array.getElem?_toList] at hj;unfold yielded;rw [hj];simp only [Act.eval,Array.getD_eq_getD_getElem?] at h
 cases ht:a.tmps[d]? with
 |none=>simp [ht]
 |some v=>
  rw [ht] at h;simp only [Option.getD_some] at h;subst h;simp [ht,undef]
theorem Hn {w0:World} {mu:Mu} {c:Cz} {st:St} {a:Act} {w:World} (h:Rel w0 mu c st a w) {d:Nat} (hg:dI st d=.qd []):a.eval (.tmp d)=undef:=by
 have h1:=h.je d;rw [hg] at h1;obtain ⟨vs,e,hl,_⟩:=h1;have:vs = #[]:=Array.eq_empty_of_size_eq_zero hl.symm;rw [e,this];rfl
theorem No {P:Program} {T:oB} {S:mS} {w0:World} {mu:Mu} {n:Nat} (Jm:wQ P T S w0 mu n) {c:Cz} {st bP:St} {a:Act} {w:World} {ops:Array Oper} {o:Oper} (h:Rel w0 mu c st a w) (hn:a.tmps.size=n)
  (hd:∀k,o.dst=some k→k<n) (hv:(EH T S ops.toList st o).val=some bP) :
  (Region.wanted o (yielded ops a.tmps)=true∧Cf P w0 mu bP o a w (kindOk S st o .one))∨(Region.wanted o (yielded ops a.tmps)=false∧Rel w0 mu c bP (a.put o.dst undef) w):=by
 unfold EH at hv;unfold Region.wanted
 cases hg:o.guard with
 |none=>
  simp only [hg] at hv ⊢;exact .inl ⟨trivial,Jm h hn hd hv⟩
 |some p=>
  obtain ⟨j,want⟩:=p;simp only [hg] at hv ⊢
  cases hj:(nth ops.toList j).bind (·.dst) with
  |none=>simp [hj,N.val] at hv
  |some d=>
   simp only [hj] at hv
   split at hv
   ·rename_i b Vt;obtain ⟨h1,h2⟩:=Bz h Vt;have hy:=Hm (ops:=ops) hj h1 h2;rw [hy];have hk:=h.aip Vt;have yes:(Ri T S (TM.bQ st (some d) (.one (.bool b))) o).val=some bP→Cf P w0 mu bP o a w (kindOk S st o .one):=fun e=>(Nn Vt)▸Jm hk hn hd e
    have no:(N.done (TM.bQ (TM.bQ st (some d) (.one (.bool b))) o.dst (.qd []))).val=some bP→Rel w0 mu c bP (a.put o.dst undef) w:=by
     intro e;simp only [N.val,Option.some.injEq] at e;subst e;exact hk.bQ (BB _ _ _) (fun k Jf=>by rw [hn];exact hd k Jf)
    rcases xN hv with ⟨hb,Hc⟩ | ⟨hb,Hc⟩
    ·subst hb
     cases want
     ·exact .inr ⟨rfl,no Hc⟩
     ·exact .inl ⟨rfl,yes Hc⟩
    ·subst hb
     cases want
     ·exact .inl ⟨rfl,yes Hc⟩
     ·exact .inr ⟨rfl,no Hc⟩
   ·rename_i Vt;simp only [N.val,Option.some.injEq] at hv;subst hv;rw [Cg (ops:=ops) hj (Hn h Vt)];exact .inr ⟨by cases want<;>rfl,h.bQ (BB _ _ _) (fun k Jf=>by rw [hn];exact hd k Jf)⟩
   ·simp [N.val] at hv
def Cn (n:Nat) (ops:List Oper):Bool:=ops.all fun o=>match o.dst with | some k=>Nat.blt k n | none=>true
theorem EK {n:Nat} {ops:List Oper} (h:Cn n ops=true) {o:Oper} (ho:o∈ops):∀k,o.dst=some k→k<n:=by
 intro k hk;have:=List.all_eq_true.1 h o ho;rw [hk] at this;exact Nat.le_of_ble_eq_true this
def Next {R:Type} (w0:World) (mu:Mu) (n:Nat) (r:R) (k:St→Option R) (K:Act→World→Prop):Prop:=
 ∀ {c:Cz} {st:St} {a:Act} {w:World},Rel w0 mu c st a w→a.tmps.size=n→k st=some r→K a w
theorem LX {R:Type} {P:Program} {T:oB} {S:mS} {w0:World} {mu:Mu} {n:Nat} (Jm:wQ P T S w0 mu n) {ops:Array Oper} {Q:Exit→Act→World→Prop} {k:St→Option R} {r:R} (hk:Next w0 mu n r k (Q .normal)) :
  (l:List Oper)→Cn n l=true→{c:Cz}→{st:St}→{a:Act}→{w:World}→Rel w0 mu c st a w→a.tmps.size=n→Y3 T S ops.toList l st k=some r→wpList P ops Q l a w
 | [],_,_,_,_,_,h,hn,hv=>hk h hn hv
 |o::l,hl,c,st,a,w,h,hn,hv=>by
  unfold Y3 at hv;rw [N.fold_eq] at hv;obtain ⟨bP,h1,h2⟩:=Option.bind_eq_some_iff.1 hv;have hd:=EK hl (o:=o) List.mem_cons_self;have By:Cn n l=true:=by
   unfold Cn at hl ⊢;rw [List.all_cons,Bool.and_eq_true] at hl;exact hl.2
  refine wpList_step fun K hK => ?_
  rcases No Jm h hn hd h1 with ⟨hw,hs⟩ | ⟨hw,hs⟩
  ·rw [if_pos hw];refine Oper.wp_mono (fun a' w' ⟨⟨c',hr,oN⟩,_⟩=>hK a' w' ?_) (hs Q);exact LX Jm hk l By hr (oN.trans hn) h2
  ·rw [if_neg (by rw [hw];decide)];exact hK _ _ (LX Jm hk l By hs ((vo _ _ _).trans hn) h2)
def Ex.go:Ex→Exit
 |.normal=>.normal
 |.exit n=>.exit n
 |.ret=>.ret
def Rq {R:Type} (w0:World) (mu:Mu) (n:Nat) (r:R) (k:Ex→St→Option R) (Q:Exit→Act→World→Prop):Prop:=
 ∀ {e:Ex} {c:Cz} {st:St} {a:Act} {w:World},Rel w0 mu c st a w→a.tmps.size=n→k e st=some r→Q e.go a w
def ij (n:Nat):Code→Bool
 |.region _ ops _=>Cn n ops.toList
 |.seq a b=>ij n a&&ij n b
 |.cond _ a b=>ij n a&&ij n b
 |.block _ a=>ij n a
 |.loop a=>ij n a
 |_=>true
def pF {R:Type} (P:Program) (w0:World) (mu:Mu) (n:Nat) (L:pT R) (r:R) (id:Nat) (b:Code):Prop:=
 ∀ {k:Ex→St→Option R} {Q:Exit→Act→World→Prop},Rq w0 mu n r k Q→∀ {c:Cz} {st:St} {a:Act} {w:World},Rel w0 mu c st a w→a.tmps.size=n→
  L id b st k=some r→(Code.block id (.loop b)).wp P Q a w
def fG (ok:Nat→Code→Prop):Code→Prop
 |.seq a b=>fG ok a∧fG ok b
 |.cond _ a b=>fG ok a∧fG ok b
 |.block id (.loop b)=>ok id b
 |.block _ a=>fG ok a
 |_=>True
def uV (R:Type) (P:Program) (T:oB) (S:mS) (D:m9) (w0:World) (mu:Mu) (n:Nat) (ok:Nat→Array Oper→Prop):Prop:=
 ∀ {id:Nat} {ops:Array Oper} {Q:Exit→Act→World→Prop} {k:St→Option R} {r:R},ok id ops→Cn n ops.toList=true→Next w0 mu n r k (Q .normal)→∀ {c:Cz} {st:St} {a:Act} {w:World},Rel w0 mu c st a w→a.tmps.size=n→
  xg T S ops.toList (D id) st k=some r→(Code.region id ops true).wp P Q a w
def fY (ok:Nat→Array Oper→Prop):Code→Prop
 |.region id ops true=>ok id ops
 |.seq a b=>fY ok a∧fY ok b
 |.cond _ a b=>fY ok a∧fY ok b
 |.block _ (.loop _)=>True
 |.block _ a=>fY ok a
 |_=>True
theorem Dq {R:Type} {P:Program} {T:oB} {S:mS} {D:m9} {L:pT R} {w0:World} {mu:Mu} {n:Nat} {r:R} {ok:Nat→Array Oper→Prop} (Jm:wQ P T S w0 mu n) (hD:uV R P T S D w0 mu n ok) :
  (cd:Code)→ij n cd=true→fG (pF P w0 mu n L r) cd→fY ok cd→{k:Ex→St→Option R}→{Q:Exit→Act→World→Prop}→Rq w0 mu n r k Q→
  {c:Cz}→{st:St}→{a:Act}→{w:World}→Rel w0 mu c st a w→a.tmps.size=n→gL T S D L cd st k=some r→cd.wp P Q a w:=by
 intro cd
 induction cd with
 |skip=>
  intro _ _ _ k Q hk c st a w h hn hv;unfold gL at hv;exact wp_skip (hk h hn hv)
 |region id ops draw=>
  intro hd hL hw k Q hk c st a w h hn hv
  cases draw with
  |false=>
   unfold gL at hv;exact wp_region_list (LX Jm (Q:=Q) (k:=fun bP=>k .normal bP) (fun h1 h2 h3=>hk h1 h2 h3) ops.toList hd h hn hv)
  |true=>
   unfold gL at hv;exact hD hw hd (k:=fun bP=>k .normal bP) (fun h1 h2 h3=>hk h1 h2 h3) h hn hv
 |seq x y ihx ihy=>
  intro hd hL hw k Q hk c st a w h hn hv;unfold gL at hv;unfold ij at hd;rw [Bool.and_eq_true] at hd;refine wp_seq (ihx hd.1 hL.1 hw.1 (fun {e} {c} {st} {a} {w} h1 h2 h3 => ?_) h hn hv)
  cases e with
  |normal=>exact ihy hd.2 hL.2 hw.2 hk h1 h2 h3
  |exit m=>exact hk h1 h2 h3
  |ret=>exact hk h1 h2 h3
 |cond x y z ihy ihz=>
  intro hd hL hw k Q hk c st a w h hn hv;unfold ij at hd;rw [Bool.and_eq_true] at hd
  cases x with
  |tmp t=>
   unfold gL at hv
   split at hv
   ·rename_i b hg;obtain ⟨_,h2⟩:=Bz h hg;have hkn:=h.aip hg
    cases b with
    |true=>exact wp_cond_true h2 (ihy hd.1 hL.1 hw.1 hk hkn hn hv)
    |false=>exact wp_cond_false h2 (ihz hd.2 hL.2 hw.2 hk hkn hn hv)
   ·cases hv
  |_=>unfold gL at hv;cases hv
 |block id b ih=>
  intro hd hL hw k Q hk c st a w h hn hv
  by_cases hb:∃b',b=.loop b'
  ·obtain ⟨b',rfl⟩:=hb;unfold gL at hv;exact hL hk h hn hv
  ·have xh:gL T S D L b st (fun e bP=>match e with
     |.exit n=>bif Nat.beq n id then k .normal bP else k (.exit n) bP
     |e=>k e bP)=some r:=by
    cases b with
    |loop b'=>exact absurd ⟨b',rfl⟩ hb
    |_=>unfold gL at hv;exact hv
   have hw':fY ok b:=by
    cases b with
    |loop b'=>exact absurd ⟨b',rfl⟩ hb
    |_=>unfold fY at hw;exact hw
   have hL':fG (pF P w0 mu n L r) b:=by
    cases b with
    |loop b'=>exact absurd ⟨b',rfl⟩ hb
    |_=>unfold fG at hL;exact hL
   refine wp_block (ih hd hL' hw' (fun {e} {c} {st} {a} {w} h1 h2 h3 => ?_) h hn xh)
   cases e with
   |normal=>exact hk h1 h2 h3
   |ret=>exact hk h1 h2 h3
   |exit m=>
    simp only at h3;unfold Exit.inBlock;simp only [Ex.go]
    cases hm:Nat.beq m id with
    |true=>
     rw [hm] at h3;rw [if_pos (Nat.eq_of_beq_eq_true hm)];exact hk h1 h2 h3
    |false=>
     rw [hm] at h3;rw [if_neg (Nat.ne_of_beq_eq_false hm)];exact hk (e:=.exit m) h1 h2 h3
 |exit id=>
  intro _ _ _ k Q hk c st a w h hn hv;unfold gL at hv;exact wp_exit (hk h hn hv)
 |ret=>
  intro _ _ _ k Q hk c st a w h hn hv;unfold gL at hv;exact wp_ret (hk h hn hv)
 |_=>
  intro _ _ _ k Q hk c st a w h hn hv;unfold gL at hv
  cases hv
end Go.TM
namespace Go.TM
open Go Go.RowKit
def OwnAt (c:Cz) (w:World) (l:Lb) (lc:Loc) (A:ns) (v:Value):Prop:=
 v.oneCell'=true∧o8 lc A.r.width 0 A.xs.length v∧A.own=true∧
 match lc with
 |.nil=>A.xs=[]
 |.at b off cap=>c.own b=some l∧A.xs.length≤cap∧(∃cur ty,w.heap[b]?=some (.cells cur ty (0,0))∧off+cap*A.r.width≤cur.size)∧
   dZ c w l A b off
def cD (c:Cz) (w:World) (f:Nat→Lb):(j:Nat)→List OV→List Value→Prop
 |_,[],vs=>vs=[]
 |j,.int k n::os,vs=>∃l,vs=.int k n::l∧cD c w f (j+1) os l
 |j,.bool b::os,vs=>∃l,vs=.bool b::l∧cD c w f (j+1) os l
 |j,.str s::os,vs=>∃l,vs=.string s::l∧cD c w f (j+1) os l
 |j,.gj::os,vs=>∃l,vs=.slice none 0 0::l∧cD c w f (j+1) os l
 |j,.shr r xs::os,vs=>∃v l,vs=v::l∧ev w c.ok (.sl r) v xs∧cD c w f (j+1) os l
 |j,.own A::os,vs=>∃v l,vs=v::l∧(∃lc,OwnAt c w (f j) lc A v)∧cD c w f (j+1) os l
 |j,.oZ r xs::os,vs=>∃v l,vs=v::l∧JY w c.ok r v xs∧cD c w f (j+1) os l
 |j,.fn g rs xs::os,vs=>∃v l,vs=v::l∧FnAt w c.ok g rs v xs∧cD c w f (j+1) os l
def J7 (c:Cz) (w:World) (i:Nat) (os:List OV) (v:Value):Prop:=
 ∃rn vs ty,v=.pointer (some ⟨rn,0,none⟩)∧c.own rn=some (.xK i)∧w.heap[rn]?=some (.cells vs ty (0,0))∧cD c w (.dC i) 0 os vs.toList
def Vu (c:Cz) (w:World) (i:Nat) (lc:Nat→Loc) (j:Nat) (o:OV) (u:Value):Prop:=
 match o with
 |.own A=>OwnAt c w (.dC i j) (lc j) A u
 |.gj=>lc j=.nil
 |_=>True
def wR (c:Cz) (w:World) (i:Nat) (lc:Nat→Loc):AV→Value→Prop
 |.val false os,v=>cD c w (.dC i) 0 os [v]
 |.val true os,v=>∃vs,v=.agg vs∧cD c w (.dC i) 0 os vs.toList
 |.io A,v=>OwnAt c w (.dC i 0) (lc 0) A v
 |.box os,v=>J7 c w i os v
 |.dR os,v=>∃vs,v=.agg vs∧cD c w (.dC i) 0 os vs.toList∧∀j o u,os[j]?=some o→vs.toList[j]?=some u→Vu c w i lc j o u
def Co (c:Cz) (w:World) (lc:Nat→Nat→Loc):(i:Nat)→List AV→List Value→Prop
 |_,[],vs=>vs=[]
 |i,a::as,vs=>∃v l,vs=v::l∧wR c w i (lc i) a v∧Co c w lc (i+1) as l
def Rr (c:Cz) (w:World) (i:Nat) (lc:Nat→Loc) (os:List OV) (us:List Value) (As:List (Option ns)):Prop:=
 ∀j A,os[j]?=some (.own A)→∃B u,nth As j=some (some B)∧us[j]?=some u∧B.r.width=A.r.width∧B.xs.length=A.xs.length∧OwnAt c w (.dC i j) (lc j) B u
def kx (c:Cz) (w:World) (lc:Nat→Nat→Loc):(i:Nat)→List AV→List Value→List XV→Prop
 |_,[],_,xs=>xs=[]
 |_,_::_,[],_=>False
 |i,.val _ _::as,_::vs,xs=>kx c w lc (i+1) as vs xs
 |i,.io A::as,v::vs,xs=>∃B l,xs=.io B::l∧B.r.width=A.r.width∧B.xs.length=A.xs.length∧OwnAt c w (.dC i 0) (lc i 0) B v∧kx c w lc (i+1) as vs l
 |i,.box _::as,v::vs,xs=>∃os l,xs=.box os::l∧J7 c w i os v∧kx c w lc (i+1) as vs l
 |i,.dR os::as,v::vs,xs=>∃As l,xs=.dR As::l∧(∃us,v=.agg us∧Rr c w i (lc i) os us.toList As)∧kx c w lc (i+1) as vs l
def oC (c:Cz) (w:World):(j:Nat)→List RV→List Value→Prop
 |_,[],vs=>vs=[]
 |j,.one o::rs,vs=>∃v l,vs=v::l∧cD c w .kK j [o] [v]∧oC c w (j+1) rs l
 |j,.agg os::rs,vs=>∃us l,vs=.agg us::l∧cD c w .kK j os us.toList∧oC c w (j+os.length) rs l
 |j,.ptr os::rs,vs=>∃v l,vs=v::l∧(∃rn us ty,v=.pointer (some ⟨rn,0,none⟩)∧c.own rn=some (.kK j)∧w.heap[rn]?=some (.cells us ty (0,0))∧cD c w .kK (j+1) os us.toList)∧oC c w (j+(os.length+1)) rs l
def vq (c:Cz) (w:World) (rs:List RV) (v:Value):Prop:=
 (∃r,rs=[r]∧oC c w 0 [r] [v])∨(rs.length≠1∧∃vs,v=.tuple vs∧oC c w 0 rs vs.toList)
structure FN (w0:World) (mu:Mu) (c:Cz) (w:World):Prop where
 owned:∀b l,c.own b=some l→b<w.heap.size∧(l=.out∨w0.heap.size≤b∨mu.m b)
 free:∀b,b<w0.heap.size→c.own b=none→mu.m b∨mu.ok b
 kept:w.os=w0.os∧w.tape=w0.tape∧w.output=w0.output∧w0.heap.size≤w.heap.size
 old:∀k,k<w0.heap.size→¬mu.m k→w.heap[k]?=w0.heap[k]?
def Lb.nu:Lb→Bool
 |.dC _ _=>true
 |.xK _=>true
 |_=>false
structure Handed (c:Cz) (w:World) (mu:Mu):Prop where
 m:∀b,mu.m b↔∃l,c.own b=some l∧l.nu=true
 ok:∀b,mu.ok b↔c.own b=none
 lt:∀b l,c.own b=some l→b<w.heap.size
 lb:∀b l,c.own b=some l→l=.out∨l.nu=true
def FnOk (P:Program) (f:FuncId) (Gu:Ap):Prop:=
 ∀(c:Cz) (w:World) (mu:Mu) (lc:Nat→Nat→Loc) (fS:List AV) (args:Array Value) (A:Ans) (x:aO A.r),Handed c w mu→Co c w lc 0 fS args.toList→Gu fS=some A→A.o=some x→
  Calls P f args w fun e w'=>∃v,e=.returned v∧∃c',FN w mu c' w'∧vq c' w' (A.res x).outs v∧kx c' w' lc 0 fS args.toList (A.res x).exts
mutual
theorem ev.plain {w:World} {ok Da:Nat→Prop}:(t:Ty)→(v:Value)→(x:den t)→RT.pE (.cons t .nil)=false→ev w ok t v x→ev w Da t v x
 |.int _,_,_,_,h=>by unfold ev at h ⊢;exact h
 |.bool,_,_,_,h=>by unfold ev at h ⊢;exact h
 |.str,_,_,_,h=>by unfold ev at h ⊢;exact h
 |.sl _,_,_,hs,_=>by simp [RT.pE] at hs
theorem fx.plain {w:World} {ok Da:Nat→Prop}:(r:RT)→(b off:Nat)→(x:aO r)→r.pE=false→fx w ok r b off x→fx w Da r b off x
 |.nil,_,_,_,_,_=>by unfold fx;trivial
 |.cons t r,b,off,x,hs,h=>by
  unfold fx at h ⊢;obtain ⟨⟨v,h1,h2⟩,h3⟩:=h;refine ⟨⟨v,h1,ev.plain t v x.1 ?_ h2⟩,fx.plain r b (off+1) x.2 ?_ h3⟩
  ·cases t<;>simp_all [RT.pE]
  ·cases t<;>simp_all [RT.pE]
end
structure Pass (c c':Cz) (pd:Lb→Prop):Prop where
 dC:∀b l,pd l→c.own b=some l→c'.own b=some l
 ok:∀b,c.ok b→c'.ok b
theorem OwnAt.pass {c c':Cz} {w:World} {l:Lb} {lc:Loc} {A:ns} {v:Value} (hp:∀b,c.own b=some l→c'.own b=some l) (ho:(∀b,c.ok b→c'.ok b)∨(!A.r.pE)=true) (h:OwnAt c w l lc A v):OwnAt c' w l lc A v:=by
 unfold OwnAt at h ⊢;obtain ⟨h1,h2,h3,h4⟩:=h;refine ⟨h1,h2,h3,?_⟩
 cases lc with
 |nil=>exact h4
 |«at» b off cap=>
  obtain ⟨g1,g2,g3,g4⟩:=h4;refine ⟨hp b g1,g2,g3,?_⟩
  by_cases Zd:A.md=.sh∧A.r.pE=false
  ·exact (dZ.sh Zd.1).2 fun i x hx=>fx.plain _ _ _ _ Zd.2 ((dZ.sh Zd.1).1 g4 i x hx)
  ·refine g4.go (fun hm => ?_) rfl (fun _ k hk=>⟨rfl,hp k hk⟩);rcases ho with ho | ho
   ·exact ⟨Nat.le_refl _,fun _ _ _=>rfl,fun b _ h=>ho b h⟩
   ·exact absurd ⟨hm,by simpa using ho⟩ Zd
theorem cD.pass {c c':Cz} {w:World} {f:Nat→Lb} (hp:∀b j,c.own b=some (f j)→c'.own b=some (f j)):(os:List OV)→((∀b,c.ok b→c'.ok b)∨os.all OV.plain=true)→(j:Nat)→(vs:List Value)→cD c w f j os vs→cD c' w f j os vs
 | [],_,_,_,h=>h
 |.int k n::os,ho,j,vs,h=>by
  obtain ⟨l,h1,h2⟩:=h;exact ⟨l,h1,cD.pass hp os (ho.imp id fun h=>by simp at h;simpa using h.2) (j+1) l h2⟩
 |.bool k::os,ho,j,vs,h=>by
  obtain ⟨l,h1,h2⟩:=h;exact ⟨l,h1,cD.pass hp os (ho.imp id fun h=>by simp at h;simpa using h.2) (j+1) l h2⟩
 |.str k::os,ho,j,vs,h=>by
  obtain ⟨l,h1,h2⟩:=h;exact ⟨l,h1,cD.pass hp os (ho.imp id fun h=>by simp at h;simpa using h.2) (j+1) l h2⟩
 |.gj::os,ho,j,vs,h=>by
  obtain ⟨l,h1,h2⟩:=h;exact ⟨l,h1,cD.pass hp os (ho.imp id fun h=>by simp at h;simpa using h.2) (j+1) l h2⟩
 |.shr r xs::os,ho,j,vs,h=>by
  obtain ⟨v,l,h1,h2,h3⟩:=h;refine ⟨v,l,h1,?_,cD.pass hp os (ho.imp id fun h=>by simp at h;simpa using h.2) (j+1) l h3⟩;rcases ho with ho | ho
  ·exact ev.stays ⟨Nat.le_refl _,fun _ _ _=>rfl,fun b _ h=>ho b h⟩ _ _ _ h2
  ·simp [OV.plain] at ho
 |.oZ r xs::os,ho,j,vs,h=>by
  obtain ⟨v,l,h1,h2,h3⟩:=h;refine ⟨v,l,h1,?_,cD.pass hp os (ho.imp id fun h=>by simp at h;simpa using h.2) (j+1) l h3⟩;rcases ho with ho | ho
  ·exact h2.stays ⟨Nat.le_refl _,fun _ _ _=>rfl,fun b _ h=>ho b h⟩
  ·simp [OV.plain] at ho
 |.fn g rs xs::os,ho,j,vs,h=>by
  obtain ⟨v,l,h1,h2,h3⟩:=h;refine ⟨v,l,h1,?_,cD.pass hp os (ho.imp id fun h=>by simp at h;simpa using h.2) (j+1) l h3⟩;rcases ho with ho | ho
  ·exact h2.stays ⟨Nat.le_refl _,fun _ _ _=>rfl,fun b _ h=>ho b h⟩
  ·simp [OV.plain] at ho
 |.own A::os,ho,j,vs,h=>by
  obtain ⟨v,l,h1,⟨lc,h2⟩,h3⟩:=h;refine ⟨v,l,h1,⟨lc,h2.pass (fun b=>hp b j) (ho.imp id fun h => ?_)⟩,cD.pass hp os (ho.imp id fun h=>by simp at h;simpa using h.2) (j+1) l h3⟩;rw [List.all_cons,Bool.and_eq_true] at h;exact h.1
theorem J7.pass {c c':Cz} {w:World} {i:Nat} {os:List OV} {v:Value} (hb:∀b,c.own b=some (.xK i)→c'.own b=some (.xK i)) (hp:∀b j,c.own b=some (.dC i j)→c'.own b=some (.dC i j)) (ho:(∀b,c.ok b→c'.ok b)∨os.all OV.plain=true) (h:J7 c w i os v):J7 c' w i os v:=by
 obtain ⟨rn,vs,ty,h1,h2,h3,h4⟩:=h;exact ⟨rn,vs,ty,h1,hb _ h2,h3,cD.pass hp os ho 0 _ h4⟩
theorem oC.pass {c c':Cz} {w:World} (hp:∀b j,c.own b=some (.kK j)→c'.own b=some (.kK j)):(rs:List RV)→((∀b,c.ok b→c'.ok b)∨rs.all (fun o=>o.An.all OV.plain)=true)→(j:Nat)→(vs:List Value)→oC c w j rs vs→oC c' w j rs vs
 | [],_,_,_,h=>h
 |.one o::rs,ho,j,vs,h=>by
  obtain ⟨v,l,h1,h2,h3⟩:=h;exact ⟨v,l,h1,cD.pass hp [o] (ho.imp id fun h=>by simp [RV.An] at h;simpa using h.1) _ _ h2,oC.pass hp rs (ho.imp id fun h=>by simp at h;simpa using h.2) _ _ h3⟩
 |.agg os::rs,ho,j,vs,h=>by
  obtain ⟨v,l,h1,h2,h3⟩:=h;exact ⟨v,l,h1,cD.pass hp os (ho.imp id fun h=>by simp [RV.An] at h;simpa using h.1) _ _ h2,oC.pass hp rs (ho.imp id fun h=>by simp at h;simpa using h.2) _ _ h3⟩
 |.ptr os::rs,ho,j,vs,h=>by
  obtain ⟨v,l,h1,⟨rn,us,ty,g1,g2,g3,g4⟩,h3⟩:=h;exact ⟨v,l,h1,⟨rn,us,ty,g1,hp _ _ g2,g3,cD.pass hp os (ho.imp id fun h=>by simp [RV.An] at h;simpa using h.1.2) _ _ g4⟩,oC.pass hp rs (ho.imp id fun h=>by simp at h;simpa using h.2) _ _ h3⟩
theorem vq.pass {c c':Cz} {w:World} (hp:∀b j,c.own b=some (.kK j)→c'.own b=some (.kK j)) {rs:List RV} (ho:(∀b,c.ok b→c'.ok b)∨rs.all (fun o=>o.An.all OV.plain)=true) {v:Value} (h:vq c w rs v):vq c' w rs v:=by
 rcases h with ⟨r,h1,h2⟩ | ⟨h1,vs,h2,h3⟩
 ·subst h1;exact .inl ⟨r,rfl,oC.pass hp _ ho _ _ h2⟩
 ·exact .inr ⟨h1,vs,h2,oC.pass hp _ ho _ _ h3⟩
theorem Rr.pass {c c':Cz} {w:World} {i:Nat} {lc:Nat→Loc} {os:List OV} {us:List Value} {As:List (Option ns)} (hp:∀b j,c.own b=some (.dC i j)→c'.own b=some (.dC i j)) (ho:(∀b,c.ok b→c'.ok b)∨XV.plain (.dR As)=true) (h:Rr c w i lc os us As):Rr c' w i lc os us As:=by
 intro j A hA;obtain ⟨B,u,h1,h2,h3,h4,h5⟩:=h j A hA;refine ⟨B,u,h1,h2,h3,h4,h5.pass (fun b=>hp b j) (ho.imp id fun h => ?_)⟩;have hm:some B∈As:=by rw [nt] at h1;exact List.mem_of_getElem? h1
 have:=List.all_eq_true.1 h _ hm;simpa using this
theorem kx.pass {c c':Cz} {w:World} {lc:Nat→Nat→Loc}:(as:List AV)→(i:Nat)→(hb:∀b k,i≤k→c.own b=some (.xK k)→c'.own b=some (.xK k))→(hp:∀b k j,i≤k→c.own b=some (.dC k j)→c'.own b=some (.dC k j))→(vs:List Value)→(xs:List XV)→((∀b,c.ok b→c'.ok b)∨xs.all XV.plain=true)→kx c w lc i as vs xs→kx c' w lc i as vs xs
 | [],_,_,_,_,_,_,h=>h
 |_::_,_,_,_,[],_,_,h=>h.elim
 |.val _ _::as,i,hb,hp,_::vs,xs,ho,h=>kx.pass as (i+1) (fun b k hk=>hb b k (by omega)) (fun b k j hk=>hp b k j (by omega)) vs xs ho h
 |.io A::as,i,hb,hp,v::vs,xs,ho,h=>by
  obtain ⟨B,l,h1,h2,h3,h4,h5⟩:=h;subst h1;refine ⟨B,l,rfl,h2,h3,h4.pass (fun b=>hp b i 0 (Nat.le_refl _)) (ho.imp id fun h=>by rw [List.all_cons,Bool.and_eq_true] at h;exact h.1),kx.pass as (i+1) (fun b k hk=>hb b k (by omega)) (fun b k j hk=>hp b k j (by omega)) vs l (ho.imp id fun h=>by simp at h;simpa using h.2) h5⟩
 |.dR _::as,i,hb,hp,v::vs,xs,ho,h=>by
  obtain ⟨As,l,h1,⟨us,h2,h3⟩,h4⟩:=h;subst h1;refine ⟨As,l,rfl,⟨us,h2,h3.pass (fun b j=>hp b i j (Nat.le_refl _)) (ho.imp id fun h=>by rw [List.all_cons,Bool.and_eq_true] at h;exact h.1)⟩,kx.pass as (i+1) (fun b k hk=>hb b k (by omega)) (fun b k j hk=>hp b k j (by omega)) vs l (ho.imp id fun h=>by rw [List.all_cons,Bool.and_eq_true] at h;exact h.2) h4⟩
 |.box _::as,i,hb,hp,v::vs,xs,ho,h=>by
  obtain ⟨os,l,h1,h2,h3⟩:=h;subst h1;refine ⟨os,l,rfl,h2.pass (fun b=>hb b i (Nat.le_refl _)) (fun b j=>hp b i j (Nat.le_refl _)) (ho.imp id fun h=>by simp [XV.plain] at h;simpa using h.1),kx.pass as (i+1) (fun b k hk=>hb b k (by omega)) (fun b k j hk=>hp b k j (by omega)) vs l (ho.imp id fun h=>by simp at h;simpa using h.2) h3⟩
end Go.TM
namespace Go.TM
open Go Go.RowKit
def Cz.map (c:Cz) (ρ:Lb→Option Lb):Cz:={ bx:=c.bx,lc:=c.lc,own:=fun b=>(c.own b).bind ρ }
theorem Cz.xi {c:Cz} {ρ:Lb→Option Lb} {b:Nat} (h:c.ok b):(c.map ρ).ok b:=by
 unfold Cz.ok Cz.map at *;simp [h]
theorem Cz.map_some {c:Cz} {ρ:Lb→Option Lb} {b:Nat} {l:Lb} (h:(c.map ρ).own b=some l):∃k,c.own b=some k∧ρ k=some l:=by
 unfold Cz.map at h;exact Option.bind_eq_some_iff.1 h
theorem Cz.nV {c:Cz} {ρ:Lb→Option Lb} {b:Nat} {l:Lb} (h:c.own b=some l):(c.map ρ).own b=ρ l:=by
 unfold Cz.map;simp [h]
theorem dZ.map {c:Cz} {w:World} {l l':Lb} {A:ns} {b off:Nat} (h:dZ c w l A b off) {ρ:Lb→Option Lb} (hρ:ρ l=some l'):dZ (c.map ρ) w l' A b off:=
 h.go (fun _=>⟨Nat.le_refl _,fun _ _ _=>rfl,fun b _ hb=>Cz.xi hb⟩) rfl (fun _ _ hk=>⟨rfl,(Cz.nV hk).trans hρ⟩)
theorem Vv {c:Cz} {w:World} {s j:Nat} {A:ns} (h:fy c w s j A) (ho:A.own=true) {vw:View} {u:Value} (h1:u.oneCell'=true) (hu:o8 (c.lc s j) A.r.width vw.lo (vw.app A.xs).length u)
  {ρ:Lb→Option Lb} {l:Lb} (hρ:ρ (.sp s j)=some l) (Jg:A.md.is .sh=true∨vw.isFull=true):∃lc,OwnAt (c.map ρ) w l lc { A with xs:=vw.app A.xs } u:=by
 cases hl:c.lc s j with
 |nil=>
  unfold o8 at hu;rw [hl] at hu;exact ⟨.nil,h1,hu,ho,List.length_eq_zero_iff.1 hu.2⟩
 |«at» b off cap=>
  unfold o8 at hu;rw [hl] at hu;obtain ⟨a,k,rfl,hk,BU,ha⟩:=hu;unfold fy at h;rw [hl] at h;obtain ⟨h0,_,⟨cur,ty,h3,h4⟩,h5⟩:=h;rw [ho] at h0;refine ⟨.at b (off+vw.lo*A.r.width) k,h1,⟨a,k,rfl,hk,by omega,by simpa using ha⟩,ho,(Cz.nV h0).trans hρ,hk,⟨cur,ty,h3,?_⟩,?_⟩
  ·have:(vw.lo+k)*A.r.width≤cap*A.r.width:=Nat.mul_le_mul_right _ BU;rw [Nat.add_mul] at this;show off+vw.lo*A.r.width+k*A.r.width≤cur.size;omega
  ·have hmm:A.md=.sh∨A.md≠.sh:=Classical.em _;rcases hmm with hm | hm
   ·refine dZ.Vi hm fun i x hi => ?_
    have:=(dZ.sh hm).1 h5 _ x (View.Bx vw A.xs hi);have e:off+vw.lo*A.r.width+i*A.r.width=off+(vw.lo+i)*A.r.width:=by rw [Nat.add_mul];omega
    rw [e];exact fx.stays ⟨Nat.le_refl _,fun _ _ _=>rfl,fun b _ hb=>Cz.xi hb⟩ _ _ _ x rfl this
   ·have hf:vw=.full:=by
     rcases Jg with Jg | Jg
     ·exact absurd (Md.xe.1 Jg) hm
     ·cases vw with
      |full=>rfl
      |«from» _=>cases Jg
      |sub _ _=>cases Jg
    subst hf;have:=h5.go (c':=c.map ρ) (w':=w) (l':=l) (fun e=>absurd e hm) rfl (fun _ k hk=>⟨rfl,(Cz.nV hk).trans hρ⟩);simpa [View.lo,View.app] using this
theorem iO.aaG {c:Cz} {st:St} {w:World} {x:CV} {cs:List CV} {vs:List Value} (h:iO c st w (x::cs) vs):∃v l,vs=v::l∧qi c st w x v∧iO c st w cs l:=by
 obtain ⟨h1,h2⟩:=h
 cases vs with
 |nil=>simp at h1
 |cons v l=>exact ⟨v,l,rfl,h2 0 x v rfl rfl,by simpa using h1,fun i y u hy hu=>h2 (i+1) y u (by simpa using hy) (by simpa using hu)⟩
theorem pG {α:Type} (l m:List α) (n:Nat):nth (l++m) n=if n<l.length then nth l n else nth m (n-l.length):=by
 simp only [nt]
 by_cases h:n<l.length
 ·rw [if_pos h,List.getElem?_append_left h]
 ·rw [if_neg h,List.getElem?_append_right (by omega)]
theorem Dr {w0:World} {mu:Mu} {c:Cz} {st:St} {a:Act} {w:World} (h:Rel w0 mu c st a w) {s j g:Nat} {A:ns} (hA:cE st s j g=some A):fy c w s j A:=by
 obtain ⟨sl,h1,_,h3⟩:=dB hA;exact h.bT s j sl A h1 h3
theorem Ds {st:St} {own:Bool} {q:RT} {y:aO q} {off:Nat} {o:OV} {u:Option Lb} {r:List (Nat×Nat)} (h:ld st own (.oZ q y off)=some (o,u,r)):o=.oZ q [y]∧u=none∧r=[]:=by
 unfold ld at h;obtain ⟨_,h⟩:=bI h;simp only [Option.some.injEq,Prod.mk.injEq] at h;exact ⟨h.1.symm,h.2.1.symm,h.2.2.symm⟩
theorem BC {st:St} {own:Bool} {q:RT} {y:List (aO q)} {off:Nat} {o:OV} {u:Option Lb} {r:List (Nat×Nat)} (h:ld st own (.xJ q y off)=some (o,u,r)):o=.oZ q y∧u=none∧r=[]:=by
 unfold ld at h;obtain ⟨_,h⟩:=bI h;simp only [Option.some.injEq,Prod.mk.injEq] at h;exact ⟨h.1.symm,h.2.1.symm,h.2.2.symm⟩
theorem Rs {w0:World} {mu:Mu} {c:Cz} {st:St} {a:Act} {w:World} (h:Rel w0 mu c st a w) {own:Bool} {ρ:Lb→Option Lb} {f:Nat→Lb} {j:Nat} {x:CV} {v:Value} (hx:qi c st w x v) {o:OV} {u:Option Lb} {r:List (Nat×Nat)}
  (hc:ld st own x=some (o,u,r)) (hu:∀l,u=some l→ρ l=some (f j)) (hr:∀p∈r,ρ (.sp p.1 p.2)=none) {os:List OV} {l:List Value} (hh:cD (c.map ρ) w f (j+1) os l):cD (c.map ρ) w f j (o::os) (v::l):=by
 cases x with
 |int k n=>
  simp only [ld,Option.some.injEq,Prod.mk.injEq] at hc;obtain ⟨rfl,rfl,_⟩:=hc;have e:v=.int k n:=hx;exact ⟨l,by rw [e],hh⟩
 |bool n=>
  simp only [ld,Option.some.injEq,Prod.mk.injEq] at hc;obtain ⟨rfl,rfl,_⟩:=hc;have e:v=.bool n:=hx;exact ⟨l,by rw [e],hh⟩
 |str n=>
  simp only [ld,Option.some.injEq,Prod.mk.injEq] at hc;obtain ⟨rfl,rfl,_⟩:=hc;have e:v=.string n:=hx;exact ⟨l,by rw [e],hh⟩
 |gj=>
  simp only [ld,Option.some.injEq,Prod.mk.injEq] at hc;obtain ⟨rfl,rfl,_⟩:=hc;have e:v=.slice none 0 0:=hx;exact ⟨l,by rw [e],hh⟩
 |shr q xs=>
  simp only [ld,Option.some.injEq,Prod.mk.injEq] at hc;obtain ⟨rfl,rfl,_⟩:=hc;have e:ev w c.ok (.sl q) v xs:=hx;exact ⟨v,l,rfl,ev.stays ⟨Nat.le_refl _,fun _ _ _=>rfl,fun b _ hb=>Cz.xi hb⟩ _ _ _ e,hh⟩
 |nn q xs=>
  simp only [ld,Option.some.injEq,Prod.mk.injEq] at hc;obtain ⟨rfl,rfl,_⟩:=hc;have e:ev w c.ok (.sl q) v xs:=hx.1;exact ⟨v,l,rfl,ev.stays ⟨Nat.le_refl _,fun _ _ _=>rfl,fun b _ hb=>Cz.xi hb⟩ _ _ _ e,hh⟩
 |ref s k g vw=>
  unfold ld at hc;simp only at hc
  cases hA:cE st s k g with
  |none=>simp [hA] at hc
  |some A=>
   simp only [hA] at hc;have ha:=Dr h hA;have hs:=hx.2.2 A hA;have aiq:A.md.Si=false:=by cases hm:A.md<;>simp_all [Md.Si]
   have GN:=aiq;simp only [aiq,cond_false] at hc
   cases hb:(own&&A.own&&(A.md.is .sh||vw.isFull)) with
   |true=>
    simp only [hb,cond_true,Option.some.injEq,Prod.mk.injEq] at hc;obtain ⟨rfl,rfl,rfl⟩:=hc;rw [Bool.and_eq_true,Bool.and_eq_true,Bool.or_eq_true] at hb;obtain ⟨lc,g1⟩:=Vv ha hb.1.2 hx.1 hs (hu _ rfl) hb.2;exact ⟨v,l,rfl,⟨lc,g1⟩,hh⟩
   |false=>
    simp only [hb,cond_false,Option.some.injEq,Prod.mk.injEq] at hc;obtain ⟨rfl,rfl,rfl⟩:=hc;refine ⟨v,l,rfl,?_,hh⟩;refine Dc ha hs (fun b hb=>Cz.xi hb) (fun b _ hk => ?_) GN;exact (Cz.nV hk).trans (hr (s,k) (by simp))
 |bad=>simp [ld] at hc
 |Pn=>simp [ld] at hc
 |ptr _ _ _=>simp [ld] at hc
 |M6 _ _ _ _ _=>simp [ld] at hc
 |oZ q y off=>
  unfold ld at hc;obtain ⟨h1,hc⟩:=bI hc;have h1:=Nat.eq_of_beq_eq_true h1;subst h1;simp only [Option.some.injEq,Prod.mk.injEq] at hc;obtain ⟨rfl,rfl,_⟩:=hc;obtain ⟨b,o,e1,e2,e3,e4⟩:=hx;refine ⟨v,l,rfl,⟨b,o,e1,e2,Cz.xi e3,fun z hz => ?_⟩,hh⟩;simp at hz;subst hz;exact fx.stays ⟨Nat.le_refl _,fun _ _ _=>rfl,fun b _ hb=>Cz.xi hb⟩ _ _ _ _ rfl e4
 |xJ q ys off=>
  unfold ld at hc;obtain ⟨h1,hc⟩:=bI hc;have h1:=Nat.eq_of_beq_eq_true h1;subst h1;simp only [Option.some.injEq,Prod.mk.injEq] at hc;obtain ⟨rfl,rfl,_⟩:=hc;obtain ⟨b,o,e1,e2,e3,e4⟩:=hx;exact ⟨v,l,rfl,⟨b,o,e1,e2,Cz.xi e3,fun z hz=>fx.stays ⟨Nat.le_refl _,fun _ _ _=>rfl,fun b _ hb=>Cz.xi hb⟩ _ _ _ _ rfl (e4 z hz)⟩,hh⟩
 |fn g rs ys=>
  simp only [ld,Option.some.injEq,Prod.mk.injEq] at hc;obtain ⟨rfl,rfl,_⟩:=hc;have hx:FnAt w c.ok g rs v ys:=hx;exact ⟨v,l,rfl,hx.stays ⟨Nat.le_refl _,fun _ _ _=>rfl,fun b _ hb=>Cz.xi hb⟩,hh⟩
theorem Rt {w0:World} {mu:Mu} {c:Cz} {st:St} {a:Act} {w:World} (h:Rel w0 mu c st a w) {own:Bool} {ρ:Lb→Option Lb} {f:Nat→Lb}:(cs:List CV)→(vs:List Value)→(j:Nat)→iO c st w cs vs→{os:List OV}→{u:List (Option Lb)}→{r:List (Nat×Nat)}→
  js st own cs=some (os,u,r)→(∀k l,nth u k=some (some l)→ρ l=some (f (j+k)))→(∀p∈r,ρ (.sp p.1 p.2)=none)→cD (c.map ρ) w f j os vs
 | [],vs,j,hl,os,u,r,he,_,_=>by
  simp only [js,Option.some.injEq,Prod.mk.injEq] at he;obtain ⟨rfl,rfl,rfl⟩:=he;have:=hl.1;simp at this;exact List.length_eq_zero_iff.1 this.symm
 |x::cs,vs,j,hl,os,u,r,he,hu,hr=>by
  obtain ⟨v,l,rfl,hx,By⟩:=hl.aaG;unfold js at he
  cases hc:ld st own x with
  |none=>simp [hc] at he
  |some p=>
   obtain ⟨o,u1,r1⟩:=p
   cases hq:js st own cs with
   |none=>simp [hc,hq] at he
   |some q=>
    obtain ⟨EF,us,rs⟩:=q;simp only [hc,hq,Option.some.injEq,Prod.mk.injEq] at he;obtain ⟨rfl,rfl,rfl⟩:=he;refine Rs h hx hc (fun l hl=>hu 0 l (by rw [hl];rfl)) (fun p hp=>hr p (List.mem_append_left _ hp)) ?_;refine Rt h cs l (j+1) By hq (fun k' l' hk => ?_) (fun p hp=>hr p (List.mem_append_right _ hp));have:=hu (k'+1) l' hk
    rwa [show j+(k'+1)=j+1+k' by omega] at this
end Go.TM
namespace Go.TM
open Go Go.RowKit
def Lb.real:Lb→Bool
 |.box _=>true
 |.sp _ _=>true
 |_=>false
theorem Lb.Dt {x y:Lb} (hx:x.real=true):Lb.same x y=true↔x=y:=by
 cases x<;>cases y<;>simp [Lb.same,Lb.real] at hx ⊢
theorem sn:(l:List Lb)→(∀x∈l,x.real=true)→yo l=true→l.Nodup
 | [],_,_=>List.nodup_nil
 |x::l,hr,h=>by
  simp only [yo,Bool.and_eq_true,List.all_eq_true] at h;refine List.nodup_cons.2 ⟨fun hm => ?_,sn l (fun y hy=>hr y (List.mem_cons_of_mem _ hy)) h.2⟩;have:=h.1 x hm;rw [(Lb.Dt (hr x List.mem_cons_self)).2 rfl] at this
  cases this
noncomputable def look:List (Lb×Lb)→Lb→Option Lb
 | [],_=>none
 |(x,y)::t,l=>have:=Classical.propDecidable (x=l);if x=l then some y else look t l
theorem Du:(t:List (Lb×Lb))→(t.map (·.1)).Nodup→{p:Lb×Lb}→p∈t→look t p.1=some p.2
 | [],_,_,h=>by simp at h
 |(x,y)::t,hn,p,h=>by
  unfold look;simp only [List.map_cons,List.nodup_cons] at hn
  by_cases e:x=p.1
  ·rw [if_pos e];rcases List.mem_cons.1 h with rfl | h
   ·rfl
   ·exact absurd (List.mem_map.2 ⟨p,h,e.symm⟩) hn.1
  ·rw [if_neg e];rcases List.mem_cons.1 h with rfl | h
   ·exact absurd rfl e
   ·exact Du t hn.2 h
theorem BD:(t:List (Lb×Lb))→{l y:Lb}→look t l=some y→(l,y)∈t
 | [],_,_,h=>by simp [look] at h
 |(x,z)::t,l,y,h=>by
  unfold look at h
  by_cases e:x=l
  ·rw [if_pos e] at h
   cases h
   subst e;exact List.mem_cons_self
  ·rw [if_neg e] at h;exact List.mem_cons_of_mem _ (BD t h)
def Dv (f:Nat→Lb):(j:Nat)→List (Option Lb)→List (Lb×Lb)
 |_,[]=>[]
 |j,some l::ls=>(l,f j)::Dv f (j+1) ls
 |j,none::ls=>Dv f (j+1) ls
theorem Dw (f:Nat→Lb):(j:Nat)→(ls:List (Option Lb))→(Dv f j ls).map (·.1)=dJ ls
 |_,[]=>rfl
 |j,some l::ls=>by simp [Dv,dJ,Dw f (j+1) ls]
 |j,none::ls=>by simp [Dv,dJ,Dw f (j+1) ls]
theorem Ho (f:Nat→Lb):(j:Nat)→(ls:List (Option Lb))→∀p∈Dv f j ls,∃k,p.2=f k
 |_,[],p,h=>by simp [Dv] at h
 |j,some l::ls,p,h=>by
  simp only [Dv,List.mem_cons] at h;rcases h with rfl | h
  ·exact ⟨j,rfl⟩
  ·exact Ho f (j+1) ls p h
 |j,none::ls,p,h=>Ho f (j+1) ls p h
theorem AD (f:Nat→Lb):(j:Nat)→(ls:List (Option Lb))→∀k l,nth ls k=some (some l)→(l,f (j+k))∈Dv f j ls
 |_,[],k,l,h=>by simp at h
 |j,x::ls,0,l,h=>by
  simp only [nth,Option.some.injEq] at h;subst h;exact List.mem_cons_self
 |j,x::ls,k+1,l,h=>by
  have:=AD f (j+1) ls k l h;rw [show j+(k+1)=j+1+k by omega]
  cases x with
  |none=>exact this
  |some x=>exact List.mem_cons_of_mem _ this
theorem lj {l:Lb}:{ls:List (Option Lb)}→l∈dJ ls↔some l∈ls
 | []=>by simp [dJ]
 |none::ls=>by simp [dJ,lj (ls:=ls)]
 |some x::ls=>by simp [dJ,lj (ls:=ls)]
def PG (c:Cz):Option CV→Loc
 |some (.ref a j _ _)=>c.lc a j
 |_=>.nil
def FO (c:Cz):V→Nat→Loc
 |.one (.ref a j _ _)=>fun _=>c.lc a j
 |.agg cs=>fun k=>PG c cs[k]?
 |_=>fun _=>.nil
theorem Ru {st:St} {own:Bool}:(cs:List CV)→{os:List OV}→{u:List (Option Lb)}→{r:List (Nat×Nat)}→js st own cs=some (os,u,r)→∀(k:Nat) (o:OV),os[k]?=some o→∃x u' r',cs[k]?=some x∧ld st own x=some (o,u',r')∧nth u k=some u'
 | [],_,_,_,h=>by
  simp only [js,Option.some.injEq,Prod.mk.injEq] at h;obtain ⟨rfl,rfl,_⟩:=h;intro k o hk;simp at hk
 |x::cs,os,u,r,h=>by
  unfold js at h
  cases hc:ld st own x with
  |none=>simp [hc] at h
  |some p=>
   obtain ⟨o,u1,r1⟩:=p
   cases hq:js st own cs with
   |none=>simp [hc,hq] at h
   |some q=>
    obtain ⟨EF,us,rs⟩:=q;simp only [hc,hq,Option.some.injEq,Prod.mk.injEq] at h;obtain ⟨rfl,rfl,_⟩:=h;intro k o' hk
    cases k with
    |zero=>
     simp only [List.getElem?_cons_zero,Option.some.injEq] at hk;subst hk;exact ⟨x,u1,r1,rfl,hc,rfl⟩
    |succ k=>
     obtain ⟨y,u',r',h1,h2,h3⟩:=Ru cs hq k o' (by simpa using hk);exact ⟨y,u',r',by simpa using h1,h2,h3⟩
theorem Vw {st:St} {own:Bool} {x:CV} {A:ns} {u:Option Lb} {r:List (Nat×Nat)} (h:ld st own x=some (.own A,u,r)):∃a j g w B,x=.ref a j g w∧cE st a j g=some B∧A={ B with xs:=w.app B.xs }∧u=some (.sp a j)∧B.own=true:=by
 cases x with
 |ref a j g w=>
  unfold ld at h;simp only at h
  cases hA:cE st a j g with
  |none=>simp [hA] at h
  |some B=>
   simp only [hA] at h
   cases hm:B.md.Si with
   |true=>simp [hm] at h
   |false=>
   simp only [hm,cond_false] at h
   cases hb:(own&&B.own&&(B.md.is .sh||w.isFull)) with
   |false=>simp [hb] at h
   |true=>
    simp only [hb,cond_true,Option.some.injEq,Prod.mk.injEq] at h;obtain ⟨h1,rfl,_⟩:=h;injection h1 with h1;rw [Bool.and_eq_true,Bool.and_eq_true] at hb;exact ⟨a,j,g,w,B,rfl,hA,h1.symm,rfl,hb.1.2⟩
 |oZ q y off=>exact absurd (Ds h).1 (by simp)
 |xJ q y off=>exact absurd (BC h).1 (by simp)
 |_=>simp [ld] at h
theorem SF {st:St} {own:Bool} {x:CV} {u:Option Lb} {r:List (Nat×Nat)} (h:ld st own x=some (.gj,u,r)):x=.gj:=by
 cases x with
 |ref a j g w=>
  unfold ld at h;simp only at h
  cases hA:cE st a j g with
  |none=>simp [hA] at h
  |some B=>
   simp only [hA] at h
   cases hm:B.md.Si with
   |true=>simp [hm] at h
   |false=>
   simp only [hm,cond_false] at h
   cases hb:(own&&B.own&&(B.md.is .sh||w.isFull))<;>simp [hb] at h
 |gj=>rfl
 |oZ q y off=>exact absurd (Ds h).1 (by simp)
 |xJ q y off=>exact absurd (BC h).1 (by simp)
 |_=>simp [ld] at h
theorem J8 {st:St} {own:Bool} {x:CV} {o:OV} {u:Option Lb} {r:List (Nat×Nat)} (h:ld st own x=some (o,u,r)):∀l,u=some l→∃s j,l=.sp s j:=by
 cases x with
 |ref a j g w=>
  unfold ld at h;simp only at h
  cases hA:cE st a j g with
  |none=>simp [hA] at h
  |some A=>
   simp only [hA] at h
   cases hm:A.md.Si with
   |true=>simp [hm] at h
   |false=>
   simp only [hm,cond_false] at h
   cases hb:(own&&A.own&&(A.md.is .sh||w.isFull))<;>simp only [hb,cond_true,cond_false,Option.some.injEq,Prod.mk.injEq] at h<;>obtain ⟨_,rfl,_⟩:=h<;>simp
 |oZ q y off=>obtain ⟨_,rfl,_⟩:=Ds h;simp
 |xJ q y off=>obtain ⟨_,rfl,_⟩:=BC h;simp
 |_=>simp [ld] at h<;>(try (obtain ⟨_,rfl,_⟩:=h;simp))
theorem BE {st:St} {own:Bool}:(cs:List CV)→{os:List OV}→{u:List (Option Lb)}→{r:List (Nat×Nat)}→js st own cs=some (os,u,r)→∀l∈dJ u,∃s j,l=.sp s j
 | [],_,_,_,h=>by
  simp only [js,Option.some.injEq,Prod.mk.injEq] at h;obtain ⟨_,rfl,_⟩:=h;simp [dJ]
 |x::cs,os,u,r,h=>by
  unfold js at h
  cases hc:ld st own x with
  |none=>simp [hc] at h
  |some p=>
   obtain ⟨o,u1,r1⟩:=p
   cases hq:js st own cs with
   |none=>simp [hc,hq] at h
   |some q=>
    obtain ⟨EF,us,rs⟩:=q;simp only [hc,hq,Option.some.injEq,Prod.mk.injEq] at h;obtain ⟨_,rfl,_⟩:=h;intro l hl;rw [lj] at hl;rcases List.mem_cons.1 hl with hl | hl
    ·exact J8 hc l hl.symm
    ·exact BE cs hq l (lj.2 hl)
theorem SG {st:St} {own:Bool} (cs:List CV) {os:List OV} {u:List (Option Lb)} {r:List (Nat×Nat)} (h:js st own cs=some (os,u,r)):∀l∈dJ u,l.real=true:=by
 intro l hl;obtain ⟨s,j,rfl⟩:=BE cs h l hl;rfl
def lX (i:Nat) (av:AV) (bx:List Lb) (u:List (Option Lb)):List (Lb×Lb):=
 bx.map (fun l=>(l,.xK i))++Dv (.dC i) 0 u
theorem pH (i:Nat) (av:AV) (bx:List Lb) (u:List (Option Lb)):(lX i av bx u).map (·.1)=bx++dJ u:=by
 unfold lX;rw [List.map_append,Dw,List.map_map]
 congr 1
 exact List.map_id bx
theorem pI (i:Nat) (av:AV) (bx:List Lb) (u:List (Option Lb)):∀p∈lX i av bx u,p.2.nu=true:=by
 intro p hp;unfold lX at hp;rcases List.mem_append.1 hp with hp | hp
 ·obtain ⟨l,_,rfl⟩:=List.mem_map.1 hp;rfl
 ·obtain ⟨k,e⟩:=Ho _ _ _ p hp;rw [e];rfl
theorem SH {w0:World} {mu:Mu} {c:Cz} {st:St} {a:Act} {w:World} (h:Rel w0 mu c st a w) {m:Pm} {v:V} {x:Value} (hx:hU c st w v x) {av:AV} {u q:List Lb} {r:List (Nat×Nat)} (he:jE st m v=some (av,u,q,r)) (i:Nat) :
  (∀l∈u,l.real=true)∧(∀l∈q,l∈u)∧∃tb:List (Lb×Lb),tb.map (·.1)=u∧(∀p∈tb,p.2.nu=true)∧∀ρ:Lb→Option Lb,(∀p∈tb,ρ p.1=some p.2)→(∀p∈r,ρ (.sp p.1 p.2)=none)→wR (c.map ρ) w i (FO c v) av x:=by
 have vals:∀(own:Bool) (cs:List CV) (os:List OV) (us:List (Option Lb)) (rs:List (Nat×Nat)) (vs:List Value),iO c st w cs vs→js st own cs=some (os,us,rs)→(∀l∈dJ us,l.real=true)∧
   ∀ρ:Lb→Option Lb,(∀p∈Dv (.dC i) 0 us,ρ p.1=some p.2)→(∀p∈rs,ρ (.sp p.1 p.2)=none)→cD (c.map ρ) w (.dC i) 0 os vs:=by
  intro own cs os us rs vs hl hq;refine ⟨SG cs hq,fun ρ hp hr=>Rt h cs vs 0 hl hq (fun k l hk => ?_) hr⟩;have:=hp _ (AD (.dC i) 0 us k l hk);simpa using this
 have single:∀(own:Bool) (cx:CV) (os:List OV) (us:List (Option Lb)) (rs:List (Nat×Nat)),qi c st w cx x→js st own [cx]=some (os,us,rs)→(∀l∈dJ us,l.real=true)∧(∀l∈dJ us,l∈dJ us)∧
   ∃tb:List (Lb×Lb),tb.map (·.1)=dJ us∧(∀p∈tb,p.2.nu=true)∧∀ρ:Lb→Option Lb,(∀p∈tb,ρ p.1=some p.2)→(∀p∈rs,ρ (.sp p.1 p.2)=none)→wR (c.map ρ) w i (FO c (.one cx)) (.val false os) x:=by
  intro own cx os us rs hl hq;obtain ⟨g1,g2⟩:=vals own [cx] os us rs [x] ⟨rfl,fun k y z hy hz=>by
   cases k with
   |zero=>simp at hy hz;subst hy hz;exact hl
   |succ k=>simp at hy⟩ hq
  exact ⟨g1,fun _ h=>h,lX i (.val false os) [] us,pH _ _ _ _,pI _ _ _ _,fun ρ hp hr=>g2 ρ (fun p lJ=>hp p (by simpa [lX] using lJ)) hr⟩
 cases v with
 |qd _=>simp [jE] at he
 |agg cs=>
  obtain ⟨vs,rfl,hl⟩:=hx;have other:(match js st m.rj cs with | some (os,u,r)=>some (AV.val true os,dJ u,dJ u,r) | none=>none)=some (av,u,q,r)→(∀l∈u,l.real=true)∧(∀l∈q,l∈u)∧
    ∃tb:List (Lb×Lb),tb.map (·.1)=u∧(∀p∈tb,p.2.nu=true)∧∀ρ:Lb→Option Lb,(∀p∈tb,ρ p.1=some p.2)→(∀p∈r,ρ (.sp p.1 p.2)=none)→wR (c.map ρ) w i (FO c (.agg cs)) av (.agg vs):=by
   intro he
   cases hq:js st m.rj cs with
   |none=>simp [hq] at he
   |some p=>
    obtain ⟨os,us,rs⟩:=p;simp only [hq,Option.some.injEq,Prod.mk.injEq] at he;obtain ⟨rfl,rfl,rfl,rfl⟩:=he;obtain ⟨g1,g2⟩:=vals _ _ _ _ _ _ hl hq;exact ⟨g1,fun _ h=>h,lX i (.val true os) [] us,pH _ _ _ _,pI _ _ _ _,fun ρ hp hr=>⟨vs,rfl,g2 ρ (fun p lJ=>hp p (by simpa [lX] using lJ)) hr⟩⟩
  unfold jE at he
  cases m with
  |shr=>exact other he
  |own=>exact other he
  |pick _=>exact other he
  |io=>exact other he
  |dR=>
   simp only at he
   cases hq:js st true cs with
   |none=>simp [hq] at he
   |some p=>
    obtain ⟨os,us,rs⟩:=p;simp only [hq] at he;obtain ⟨q8,BV⟩:=bI he;simp only [Option.some.injEq,Prod.mk.injEq] at BV;obtain ⟨rfl,rfl,rfl,rfl⟩:=BV;obtain ⟨g1,g2⟩:=vals _ _ _ _ _ _ hl hq;refine ⟨g1,by simp,lX i (.val true os) [] us,pH _ _ _ _,pI _ _ _ _,fun ρ hp hr=>⟨vs,rfl,g2 ρ (fun p lJ=>hp p (by simpa [lX] using lJ)) hr,fun j o x ho hxj => ?_⟩⟩;obtain ⟨cx,u',r',k1,k2,k3⟩:=Ru cs hq j o ho;show Vu (c.map ρ) w i (fun k=>PG c cs[k]?) j o x
    cases o with
    |gj=>
     have:=SF k2;subst this;show PG c cs[j]?=.nil;rw [k1];rfl
    |own A=>
     obtain ⟨s,k,g,vw,B,rfl,hA,rfl,rfl,hB⟩:=Vw k2;have Gw:CV.ref s k g vw∈cs:=List.mem_of_getElem? k1;have Jg:=List.all_eq_true.1 q8 _ Gw;have Vx:vw=.full:=by
      unfold U7 at Jg;rw [Bool.and_eq_true] at Jg
      cases vw with
      |full=>rfl
      |«from» _=>cases Jg.1
      |sub _ _=>cases Jg.1
     subst Vx;have hxr:=hl.2 j _ _ k1 hxj;have hs:=hxr.2.2 B hA;have ha:=Dr h hA;have hρ:ρ (.sp s k)=some (.dC i j):=hp (.sp s k,.dC i j) (by
      have:=AD (.dC i) 0 us j (.sp s k) k3;simpa [lX] using this)
     have anA:(fun k=>PG c cs[k]?) j=c.lc s k:=by
      show PG c cs[j]?=_;rw [k1];rfl
     show OwnAt (c.map ρ) w (.dC i j) ((fun k=>PG c cs[k]?) j) { B with xs:=View.full.app B.xs } x;rw [anA];refine ⟨hxr.1,hs,hB,?_⟩;show match c.lc s k with
      |.nil=>B.xs=[]
      |.at b off cap=>_
     unfold fy at ha
     cases nk:c.lc s k with
     |nil=>rw [nk] at ha;exact ha
     |«at» b off cap=>
      rw [nk] at ha;obtain ⟨h0,h2,h3,h4⟩:=ha;rw [hB] at h0;exact ⟨(Cz.nV h0).trans hρ,h2,h3,h4.map hρ⟩
    |_=>trivial
 |one cx=>
  cases cx with
  |ptr b g off=>
   unfold jE at he;simp only at he
   cases hb:fM st b g with
   |none=>simp [hb] at he
   |some cs=>
    simp only [hb] at he
    cases hq:js st true cs with
    |none=>simp [hq] at he
    |some p=>
     obtain ⟨os,us,rs⟩:=p;simp only [hq] at he;obtain ⟨ho,BV⟩:=bI he;have ho1:=Nat.eq_of_beq_eq_true ho;simp only [Option.some.injEq,Prod.mk.injEq] at BV;obtain ⟨rfl,rfl,rfl,rfl⟩:=BV;subst ho1;obtain ⟨sl,k1,k2,k3⟩:=j5 hb;obtain ⟨h1,vs,ty,h2,h3⟩:=h.boxes b sl cs k1 k3;obtain ⟨g1,g2⟩:=vals _ _ _ _ _ _ h3 hq;refine ⟨fun l hl => ?_,fun l hl=>List.mem_cons_of_mem _ hl,lX i (.box os) [.box b] us,by rw [pH];rfl,pI _ _ _ _,fun ρ hp hr=>⟨c.bx b,vs,ty,hx.2.2 cs hb,?_,h2,g2 ρ (fun p lJ=>hp p (List.mem_append_right _ lJ)) hr⟩⟩
     ·rcases List.mem_cons.1 hl with rfl | hl
      ·rfl
      ·exact g1 l hl
     ·exact (Cz.nV h1).trans (hp (.box b,.xK i) (by simp [lX]))
  |ref s j g vw=>
   unfold jE at he;have other:(match js st m.rj [.ref s j g vw] with | some (os,u,r)=>some (AV.val false os,dJ u,dJ u,r) | none=>none)=some (av,u,q,r)→(∀l∈u,l.real=true)∧(∀l∈q,l∈u)∧
     ∃tb:List (Lb×Lb),tb.map (·.1)=u∧(∀p∈tb,p.2.nu=true)∧∀ρ:Lb→Option Lb,(∀p∈tb,ρ p.1=some p.2)→(∀p∈r,ρ (.sp p.1 p.2)=none)→wR (c.map ρ) w i (FO c (.one (.ref s j g vw))) av x:=by
    intro he
    cases hq:js st m.rj [.ref s j g vw] with
    |none=>simp [hq] at he
    |some p=>
     obtain ⟨os,us,rs⟩:=p;simp only [hq,Option.some.injEq,Prod.mk.injEq] at he;obtain ⟨rfl,rfl,rfl,rfl⟩:=he;exact single _ _ _ _ _ hx hq
   cases m with
   |shr=>exact other he
   |own=>exact other he
   |pick _=>exact other he
   |dR=>exact other he
   |io=>
    cases vw with
    |full=>
     cases hA:cE st s j g with
     |none=>simp [hA] at he
     |some A=>
      simp only [hA] at he;obtain ⟨ho,BV⟩:=bI he;rw [Bool.and_eq_true] at ho;have ho:=ho.1;simp only [Option.some.injEq,Prod.mk.injEq] at BV;obtain ⟨rfl,rfl,rfl,rfl⟩:=BV;refine ⟨by simp [Lb.real],by simp,[(.sp s j,.dC i 0)],rfl,by simp [Lb.nu],fun ρ hp _ => ?_⟩;have ha:=Dr h hA;have hs:=hx.2.2 A hA;have hρ:ρ (.sp s j)=some (.dC i 0):=hp (.sp s j,.dC i 0) (by simp);refine ⟨hx.1,hs,ho,?_⟩;show match c.lc s j with
       |.nil=>A.xs=[]
       |.at b off cap=>_
      unfold fy at ha
      cases nk:c.lc s j with
      |nil=>rw [nk] at ha;exact ha
      |«at» b off cap=>
       rw [nk] at ha;obtain ⟨h0,h2,h3,h4⟩:=ha;rw [ho] at h0;exact ⟨(Cz.nV h0).trans hρ,h2,h3,h4.map hρ⟩
    |«from» _=>simp at he
    |sub _ _=>simp at he
  |_=>
   unfold jE at he;simp only at he
   split at he
   ·rename_i os us rs hq;simp only [Option.some.injEq,Prod.mk.injEq] at he;obtain ⟨rfl,rfl,rfl,rfl⟩:=he;exact single _ _ _ _ _ hx hq
   ·cases he
theorem J9 {w0:World} {mu:Mu} {c:Cz} {st:St} {a:Act} {w:World} (h:Rel w0 mu c st a w):(ms:List (Pm×V))→(i:Nat)→(xs:List Value)→ms.length=xs.length→(∀(k:Nat) (m:Pm×V) (x:Value),ms[k]?=some m→xs[k]?=some x→hU c st w m.2 x)→
  {fS:List AV}→{u q:List Lb}→{r:List (Nat×Nat)}→oM st ms=some (fS,u,q,r)→
  (∀l∈u,l.real=true)∧(∀l∈q,l∈u)∧∃tb:List (Lb×Lb),tb.map (·.1)=u∧(∀p∈tb,p.2.nu=true)∧fS.length=ms.length∧
   ∀(ρ:Lb→Option Lb) (lc:Nat→Nat→Loc),(∀(k:Nat) (m:Pm×V),ms[k]?=some m→lc (i+k)=FO c m.2)→(∀p∈tb,ρ p.1=some p.2)→(∀p∈r,ρ (.sp p.1 p.2)=none)→Co (c.map ρ) w lc i fS xs
 | [],i,xs,hl,hx,fS,u,q,r,he=>by
  simp only [oM,Option.some.injEq,Prod.mk.injEq] at he;obtain ⟨rfl,rfl,rfl,rfl⟩:=he;simp at hl;exact ⟨by simp,by simp,[],rfl,by simp,rfl,fun ρ lc _ _ _=>List.length_eq_zero_iff.1 hl.symm⟩
 |(m,v)::ms,i,xs,hl,hx,fS,u,q,r,he=>by
  cases xs with
  |nil=>simp at hl
  |cons x xs=>
   unfold oM at he
   cases h1:jE st m v with
   |none=>simp [h1] at he
   |some p1=>
    obtain ⟨av,u1,q1,r1⟩:=p1
    cases h2:oM st ms with
    |none=>simp [h1,h2] at he
    |some p2=>
     obtain ⟨aca,u2,q2,r2⟩:=p2;simp only [h1,h2,Option.some.injEq,Prod.mk.injEq] at he;obtain ⟨rfl,rfl,rfl,rfl⟩:=he;obtain ⟨a1,a2,ta,a4,a5,a3⟩:=SH h (hx 0 (m,v) x rfl rfl) h1 i;obtain ⟨b1,b2,tb,b3,b4,b6,b5⟩:=J9 h ms (i+1) xs (by simpa using hl) (fun k m x hm Rk=>hx (k+1) m x (by simpa using hm) (by simpa using Rk)) h2;refine ⟨fun l hl => ?_,fun l hl => ?_,ta++tb,by simp [a4,b3],fun p hp => ?_,by simp [b6],fun ρ lc nk hp hr => ?_⟩
     ·rcases List.mem_append.1 hl with hl | hl
      ·exact a1 l hl
      ·exact b1 l hl
     ·rcases List.mem_append.1 hl with hl | hl
      ·exact List.mem_append_left _ (a2 l hl)
      ·exact List.mem_append_right _ (b2 l hl)
     ·rcases List.mem_append.1 hp with hp | hp
      ·exact a5 p hp
      ·exact b4 p hp
     ·refine ⟨x,xs,rfl,?_,b5 ρ lc (fun k m hm => ?_) (fun p lJ=>hp p (List.mem_append_right _ lJ)) (fun p lJ=>hr p (List.mem_append_right _ lJ))⟩
      ·have:=nk 0 (m,v) rfl;simp only [Nat.add_zero] at this;rw [this];exact a3 ρ (fun p lJ=>hp p (List.mem_append_left _ lJ)) (fun p lJ=>hr p (List.mem_append_left _ lJ))
      ·have:=nk (k+1) m (by simpa using hm)
       rwa [show i+(k+1)=i+1+k by omega] at this
end Go.TM
namespace Go.TM
open Go Go.RowKit
structure nv (X:Lb→Prop) (w0:World) (mu:Mu) (c:Cz) (st:St) (a:Act) (w:World):Prop where
 je:∀t,hU c st w (dI st t) (a.eval (.tmp t))
 boxes:∀s sl cs,¬X (.box s)→nth st s=some sl→sl.box=some cs→Au c st w s cs
 bT:∀s j sl A,¬X (.sp s j)→nth st s=some sl→nth sl.bT j=some (some A)→fy c w s j A
 owned:∀b l,c.own b=some l→b<w.heap.size∧(l=.out∨w0.heap.size≤b∨mu.m b)
 free:∀b,b<w0.heap.size→c.own b=none→mu.m b∨mu.ok b
 kept:w.os=w0.os∧w.tape=w0.tape∧w.output=w0.output∧w0.heap.size≤w.heap.size
 old:∀k,k<w0.heap.size→¬mu.m k→w.heap[k]?=w0.heap[k]?
 plain:a.defers=[]
 hY:∀p∈mu.an,Y5 c st p
theorem nv.rel {w0:World} {mu:Mu} {c:Cz} {st:St} {a:Act} {w:World} (h:nv (fun _=>False) w0 mu c st a w):Rel w0 mu c st a w:=
 ⟨h.je,fun s sl cs=>h.boxes s sl cs id,fun s j sl A=>h.bT s j sl A id,h.owned,h.free,h.kept,h.old,h.plain,h.hY⟩
structure FP (ρ:Lb→Lb):Prop where
 other:∀l,(l=.out∨l.real=true)→ρ l=l
def Cz.ia (c:Cz) (ρ:Lb→Lb) (bx:Nat→Nat) (lc:Nat→Nat→Loc):Cz:={ bx:=bx,lc:=lc,own:=fun b=>(c.own b).map ρ }
theorem Cz.so {c:Cz} {ρ:Lb→Lb} {bx:Nat→Nat} {lc:Nat→Nat→Loc} {b:Nat}:(c.ia ρ bx lc).ok b↔c.ok b:=by
 unfold Cz.ok Cz.ia;simp
theorem rF (c:Cz) (w:World) (ρ:Lb→Lb) (bx:Nat→Nat) (lc:Nat→Nat→Loc):lf w w c.ok (c.ia ρ bx lc).ok:=⟨Nat.le_refl _,fun _ _ _=>rfl,fun _ _ h=>Cz.so.2 h⟩
theorem nv.ia {X X':Lb→Prop} {w0:World} {mu:Mu} {c:Cz} {st bP:St} {a:Act} {w:World} (h:nv X w0 mu c st a w) {ρ:Lb→Lb} {bx:Nat→Nat} {lc:Nat→Nat→Loc} (hρ:FP ρ)
  (lN:Fw c st w (c.ia ρ bx lc) bP w) (air:∀t,hU (c.ia ρ bx lc) bP w (dI bP t) (a.eval (.tmp t)))
  (anB:∀s sl cs,¬X' (.box s)→nth bP s=some sl→sl.box=some cs→Au (c.ia ρ bx lc) bP w s cs)
  (EL:∀s j sl A,¬X' (.sp s j)→nth bP s=some sl→nth sl.bT j=some (some A)→fy (c.ia ρ bx lc) w s j A):nv X' w0 mu (c.ia ρ bx lc) bP a w where
 je:=air
 boxes:=anB
 bT:=EL
 owned b l hb:=by
  unfold Cz.ia at hb;simp only [Option.map_eq_some_iff] at hb;obtain ⟨k,hk,e⟩:=hb;obtain ⟨h1,h2⟩:=h.owned b k hk;refine ⟨h1,h2.imp (fun e2 => ?_) id⟩;subst e2;rw [←e];exact hρ.other _ (.inl rfl)
 free b hb h1:=h.free b hb (by unfold Cz.ia at h1;simpa using h1)
 kept:=h.kept
 old:=h.old
 plain:=h.plain
 hY p hp:=lN.hY (h.hY p hp)
theorem lY (st:St) (s j:Nat) (A:Option ns) (k:Nat):∃f:Sl→Sl,(∀x,(f x).v=x.v∧(f x).box=x.box∧(f x).bg=x.bg∧(f x).ag=x.ag∧
   (∀i,nth (f x).bT i=if k=s∧i=j then (nth x.bT i).map (fun _=>A) else nth x.bT i)∧(f x).ep=if k=s then x.ep+1 else x.ep)∧nth (eX st s j A) k=(nth st k).map f:=by
 unfold eX
 by_cases e:k=s
 ·subst e;refine ⟨fun s=>{ s with bT:=sY (fun _=>A) s.bT j,ep:=s.ep+1 },fun x=>⟨rfl,rfl,rfl,rfl,fun i => ?_,by simp⟩,qh _ _ _⟩;simp only [kZ,true_and]
 ·refine ⟨id,fun x=>⟨rfl,rfl,rfl,rfl,fun i => ?_,by simp [e]⟩,by rw [vh _ _ e];simp⟩;simp [e]
theorem Hp (st:St) (s j:Nat) (A:Option ns) (t:Nat):wD st t≤wD (eX st s j A) t∧(wD (eX st s j A) t=wD st t→t≠s∨nth st t=none):=by
 obtain ⟨f,hf,hk⟩:=lY st s j A t;unfold wD;rw [hk]
 cases nth st t with
 |none=>simp
 |some x=>
  simp only [Option.map_some];rw [(hf x).2.2.2.2.2]
  by_cases e:t=s
  ·rw [if_pos e];exact ⟨by omega,fun h=>by omega⟩
  ·rw [if_neg e];exact ⟨Nat.le_refl _,fun _=>.inl e⟩
theorem FQ (st:St) (s j:Nat) (A:Option ns) (t:Nat):dI (eX st s j A) t=dI st t:=by
 obtain ⟨f,hf,hk⟩:=lY st s j A t;unfold dI;rw [hk]
 cases nth st t with
 |none=>rfl
 |some x=>exact (hf x).1
theorem Hq (st:St) (s j:Nat) (A:Option ns) (t:Nat):gJ (eX st s j A) t=gJ st t∧jW (eX st s j A) t=jW st t:=by
 obtain ⟨f,hf,hk⟩:=lY st s j A t;unfold gJ jW;rw [hk]
 cases nth st t with
 |none=>exact ⟨rfl,rfl⟩
 |some x=>exact ⟨(hf x).2.2.2.1,(hf x).2.2.1⟩
theorem Np (st:St) (s j:Nat) (A:Option ns) (b g:Nat):fM (eX st s j A) b g=fM st b g:=by
 obtain ⟨f,hf,hk⟩:=lY st s j A b;unfold fM;rw [hk]
 cases nth st b with
 |none=>rfl
 |some x=>simp [(hf x).2.1,(hf x).2.2.1]
theorem BF {st:St} {a j g:Nat} {sl:Sl} {A:ns} (h1:nth st a=some sl) (h2:sl.ag=g) (h3:nth sl.bT j=some (some A)):cE st a j g=some A:=by
 unfold cE;rw [h1];simp [h2,h3]
theorem Ka {c:Cz} {st:St} {w:World} {s j g:Nat} {A:Option ns} {A0:ns} (h0:cE st s j g=some A0∨A=none) (hA:∀B,A=some B→B.r.width=A0.r.width∧B.xs.length=A0.xs.length) (ρ:Lb→Lb) :
  Fw c st w (c.ia ρ c.bx c.lc) (eX st s j A) w where
 stays:=rF c w ρ _ _
 refs a' j' g' A' hg iy:=by
  obtain ⟨sl,k1,k2,k3⟩:=dB iy;obtain ⟨f,hf,hk⟩:=lY st s j A a';rw [hk] at k1
  cases hx:nth st a' with
  |none=>rw [hx] at k1;simp at k1
  |some x=>
   rw [hx] at k1;simp at k1;subst k1;rw [(hf x).2.2.2.1] at k2;rw [(hf x).2.2.2.2.1 j'] at k3
   by_cases e:a'=s∧j'=j
   ·rw [if_pos e] at k3;obtain ⟨rfl,rfl⟩:=e
    cases hq:nth x.bT j' with
    |none=>simp [hq] at k3
    |some A1=>
     simp only [hq,Option.map_some,Option.some.injEq] at k3;rcases h0 with h0 | h0
     ·obtain ⟨sl,k1',k2',k3'⟩:=dB h0;rw [hx] at k1';cases k1';obtain ⟨e1,e2⟩:=hA A' k3;refine ⟨A0,BF hx k2 k3',e1,e2,rfl,fun he => ?_⟩;rcases (Hp st a' j' A a').2 he with h | h
      ·exact absurd rfl h
      ·rw [hx] at h;cases h
     ·rw [h0] at k3;cases k3
   ·rw [if_neg e] at k3;exact ⟨A',BF hx k2 k3,rfl,rfl,rfl,fun _=>⟨rfl,fun _ _ _ _=>rfl⟩⟩
 G0 b g' cs _ h:=⟨⟨cs,by rwa [Np] at h⟩,rfl⟩
 gA a':=by rw [(Hq st s j A a').1];exact Nat.le_refl _
 gB a':=by rw [(Hq st s j A a').2];exact Nat.le_refl _
 gE a':=(Hp st s j A a').1
theorem Au.ia {c:Cz} {st bP:St} {w:World} {ρ:Lb→Lb} {bx:Nat→Nat} {lc:Nat→Nat→Loc} (hρ:FP ρ) (lN:Fw c st w (c.ia ρ bx lc) bP w) {s:Nat} {cs:List CV} (h:Au c st w s cs) (hb:bx s=c.bx s):Au (c.ia ρ bx lc) bP w s cs:=by
 refine h.go lN hb ?_ rfl;unfold Cz.ia;simp only;rw [h.1];simp [hρ.other (.box s) (.inr rfl)]
theorem fy.ia {c:Cz} {w:World} {ρ:Lb→Lb} {bx:Nat→Nat} {lc:Nat→Nat→Loc} (hρ:FP ρ) {s j:Nat} {A:ns} (h:fy c w s j A) (hl:lc s j=c.lc s j):fy (c.ia ρ bx lc) w s j A:=by
 refine h.go (rF c w ρ bx lc) hl (fun b h0=>⟨rfl,?_⟩);unfold Cz.ia;simp only;rw [h0];simp [hρ.other (.sp s j) (.inr rfl)]
theorem Hr:FP id:=⟨fun _ _=>rfl⟩
theorem nv.kill {X:Lb→Prop} {w0:World} {mu:Mu} {c:Cz} {st:St} {a:Act} {w:World} (h:nv X w0 mu c st a w) (s j:Nat):nv (fun l=>X l∧l≠.sp s j) w0 mu (c.ia id c.bx c.lc) (eX st s j none) a w∧Fw c st w (c.ia id c.bx c.lc) (eX st s j none) w:=by
 have lN:Fw c st w (c.ia id c.bx c.lc) (eX st s j none) w:=Ka (g:=0) (A0:={ r:=.nil,own:=false,xs:=[] }) (.inr rfl) (fun _ e=>by cases e) id;refine ⟨h.ia Hr lN (fun t=>by rw [FQ];exact lN.vi (h.je t)) (fun k sl cs hX hs hb => ?_) (fun k i sl A hX hs hA => ?_),lN⟩
 ·obtain ⟨f,hf,hk⟩:=lY st s j none k;rw [hk] at hs
  cases hx:nth st k with
  |none=>rw [hx] at hs;simp at hs
  |some x=>
   rw [hx] at hs;simp at hs;subst hs;rw [(hf x).2.1] at hb;exact (h.boxes k x cs (fun SI=>hX ⟨SI,by simp⟩) hx hb).ia Hr lN rfl
 ·obtain ⟨f,hf,hk⟩:=lY st s j none k;rw [hk] at hs
  cases hx:nth st k with
  |none=>rw [hx] at hs;simp at hs
  |some x=>
   rw [hx] at hs;simp at hs;subst hs;rw [(hf x).2.2.2.2.1 i] at hA
   by_cases e:k=s∧i=j
   ·rw [if_pos e] at hA
    cases hq:nth x.bT i<;>simp [hq] at hA
   ·rw [if_neg e] at hA;exact (h.bT k i x A (fun SI=>hX ⟨SI,by rintro e';injection e' with e1 e2;exact e ⟨e1,e2⟩⟩) hx hA).ia Hr rfl
theorem nv.mono {X X':Lb→Prop} {w0:World} {mu:Mu} {c:Cz} {st:St} {a:Act} {w:World} (h:nv X w0 mu c st a w) (hX:∀l,X l→X' l):nv X' w0 mu c st a w:=
 ⟨h.je,fun s sl cs hn=>h.boxes s sl cs (fun h=>hn (hX _ h)),fun s j sl A hn=>h.bT s j sl A (fun h=>hn (hX _ h)),h.owned,h.free,h.kept,h.old,h.plain,h.hY⟩
def xj (i z s j:Nat):Lb→Lb
 |.dC x y=>if x=i∧y=z then .sp s j else .dC x y
 |l=>l
def ug (i b:Nat):Lb→Lb
 |.dC x y=>if x=i then .sp b y else .dC x y
 |.xK x=>if x=i then .box b else .xK x
 |l=>l
theorem LY (i z s j:Nat):FP (xj i z s j):=⟨fun l h=>by cases l<;>simp [xj,Lb.real] at h ⊢⟩
theorem Jn (i b:Nat):FP (ug i b):=⟨fun l h=>by cases l<;>simp [ug,Lb.real] at h ⊢⟩
theorem OwnAt.arr {c:Cz} {w:World} {l:Lb} {lc':Loc} {A:ns} {v:Value} (h:OwnAt c w l lc' A v) {ρ:Lb→Lb} {bx:Nat→Nat} {lc:Nat→Nat→Loc} {s j:Nat} (hl:lc s j=lc') (hρ:ρ l=.sp s j):fy (c.ia ρ bx lc) w s j A:=by
 obtain ⟨_,_,h3,h4⟩:=h;unfold fy;show match lc s j with | .nil=>_ | .at b off cap=>_
 rw [hl]
 cases lc' with
 |nil=>exact h4
 |«at» b off cap=>
  obtain ⟨g1,g2,g3,g4⟩:=h4;rw [h3];have hq:∀k,c.own k=some l→(c.ia ρ bx lc).own k=some (.sp s j):=by
   intro k hk;show (c.own k).map ρ=_;rw [hk];simp [hρ]
  exact ⟨hq b g1,g2,g3,g4.go (fun _=>rF c w ρ bx lc) rfl (fun _ k hk=>⟨rfl,hq k hk⟩)⟩
theorem nv.io {X:Lb→Prop} {w0:World} {mu:Mu} {c:Cz} {st:St} {a:Act} {w:World} (h:nv X w0 mu c st a w) {s j g i z:Nat} {A B:ns} {v:Value} (hA:cE st s j g=some A) (hw:B.r.width=A.r.width) (hn:B.xs.length=A.xs.length)
  (hB:OwnAt c w (.dC i z) (c.lc s j) B v):nv (fun l=>X l∧l≠.sp s j) w0 mu (c.ia (xj i z s j) c.bx c.lc) (eX st s j (some B)) a w∧Fw c st w (c.ia (xj i z s j) c.bx c.lc) (eX st s j (some B)) w:=by
 have lN:Fw c st w (c.ia (xj i z s j) c.bx c.lc) (eX st s j (some B)) w:=Ka (.inl hA) (fun _ e=>by cases e;exact ⟨hw,hn⟩) _;have ht:=LY i z s j;refine ⟨h.ia ht lN (fun t=>by rw [FQ];exact lN.vi (h.je t)) (fun k sl cs hX hs hb => ?_) (fun k q sl A' hX hs iy => ?_),lN⟩
 ·obtain ⟨f,hf,hk⟩:=lY st s j (some B) k;rw [hk] at hs
  cases hx:nth st k with
  |none=>rw [hx] at hs;simp at hs
  |some x=>
   rw [hx] at hs;simp at hs;subst hs;rw [(hf x).2.1] at hb;exact (h.boxes k x cs (fun SI=>hX ⟨SI,by simp⟩) hx hb).ia ht lN rfl
 ·obtain ⟨f,hf,hk⟩:=lY st s j (some B) k;rw [hk] at hs
  cases hx:nth st k with
  |none=>rw [hx] at hs;simp at hs
  |some x=>
   rw [hx] at hs;simp at hs;subst hs;rw [(hf x).2.2.2.2.1 q] at iy
   by_cases e:k=s∧q=j
   ·rw [if_pos e] at iy;obtain ⟨rfl,rfl⟩:=e
    cases hq:nth x.bT q with
    |none=>simp [hq] at iy
    |some A1=>
     simp only [hq,Option.map_some,Option.some.injEq] at iy;subst iy;exact hB.arr rfl (by simp [xj])
   ·rw [if_neg e] at iy;exact (h.bT k q x A' (fun SI=>hX ⟨SI,by rintro e';injection e' with e1 e2;exact e ⟨e1,e2⟩⟩) hx iy).ia ht rfl
theorem cD.cells {c:Cz} {w:World} {f:Nat→Lb}:(os:List OV)→(j:Nat)→(vs:List Value)→cD c w f j os vs→
  ∃lcs:Nat→Loc,(∀k A,nth (cj os) k=some (some A)→∃v,OwnAt c w (f (j+k)) (lcs (j+k)) A v)∧
   ∀(c2:Cz) (lO:St) (d g:Nat),(∀b,c.ok b→c2.ok b)→(∀k,k<os.length→c2.lc d (j+k)=lcs (j+k))→(∀k A,k<os.length→cE lO d (j+k) g=some A→nth (cj os) k=some (some A))→g≤gJ lO d→iO c2 lO w (bV d g j os) vs
 | [],j,vs,h=>by
  subst h;exact ⟨fun _=>.nil,fun k A hA=>by simp [cj] at hA,fun _ _ _ _ _ _ _ _=>⟨rfl,fun i x v hx=>by simp [bV] at hx⟩⟩
 |o::os,j,vs,h=>by
  obtain ⟨v,l,rfl,hh,Hb⟩:∃v l,vs=v::l∧cD c w f (j+1) os l∧∃lc,(∀A,o.arr=some A→OwnAt c w (f j) lc A v)∧∀(c2:Cz) (lO:St) (d g:Nat),(∀b,c.ok b→c2.ok b)→c2.lc d j=lc→(∀A,cE lO d j g=some A→o.arr=some A)→g≤gJ lO d→
    ∃x,bV d g j (o::os)=x::bV d g (j+1) os∧qi c2 lO w x v:=by
   cases o with
   |int k n=>obtain ⟨l,h1,h2⟩:=h;exact ⟨_,l,h1,h2,.nil,(fun _ e=>by cases e),fun c2 lO d g _ _ _ _=>⟨_,rfl,rfl⟩⟩
   |bool b=>obtain ⟨l,h1,h2⟩:=h;exact ⟨_,l,h1,h2,.nil,(fun _ e=>by cases e),fun c2 lO d g _ _ _ _=>⟨_,rfl,rfl⟩⟩
   |str b=>obtain ⟨l,h1,h2⟩:=h;exact ⟨_,l,h1,h2,.nil,(fun _ e=>by cases e),fun c2 lO d g _ _ _ _=>⟨_,rfl,rfl⟩⟩
   |gj=>obtain ⟨l,h1,h2⟩:=h;exact ⟨_,l,h1,h2,.nil,(fun _ e=>by cases e),fun c2 lO d g _ _ _ _=>⟨_,rfl,rfl⟩⟩
   |shr r xs=>
    obtain ⟨v,l,h1,h2,h3⟩:=h;exact ⟨v,l,h1,h3,.nil,(fun _ e=>by cases e),fun c2 lO d g iN _ _ _=>⟨.shr r xs,rfl,ev.stays ⟨Nat.le_refl _,fun _ _ _=>rfl,fun b _ hb=>iN b hb⟩ _ _ _ h2⟩⟩
   |oZ r xs=>
    obtain ⟨v,l,h1,⟨b,o,e1,e2,e3,e4⟩,h3⟩:=h;exact ⟨v,l,h1,h3,.nil,(fun _ e=>by cases e),fun c2 lO d g iN _ _ _=>⟨.xJ r xs 0,rfl,b,o,e1,e2,iN b e3,fun x hx=>fx.stays ⟨Nat.le_refl _,fun _ _ _=>rfl,fun b _ hb=>iN b hb⟩ _ _ _ _ rfl (e4 x hx)⟩⟩
   |fn g rs xs=>
    obtain ⟨v,l,h1,h2,h3⟩:=h;exact ⟨v,l,h1,h3,.nil,(fun _ e=>by cases e),fun c2 lO d g' iN _ _ _=>⟨.fn g rs xs,rfl,h2.stays ⟨Nat.le_refl _,fun _ _ _=>rfl,fun b _ hb=>iN b hb⟩⟩⟩
   |own A=>
    obtain ⟨v,l,h1,⟨lc,h2⟩,h3⟩:=h;refine ⟨v,l,h1,h3,lc,(fun A' e=>by cases e;exact h2),fun c2 lO d g _ nk EL hg=>⟨.ref d j g .full,rfl,h2.1,hg,fun A' iy => ?_⟩⟩;have e:=EL A' iy
    cases e
    rw [nk];exact h2.2.1
  obtain ⟨lc,q1,q2⟩:=Hb;obtain ⟨lcs,g1,g2⟩:=cD.cells os (j+1) l hh;refine ⟨fun k=>if k=j then lc else lcs k,fun k A' iy => ?_,fun c2 lO d g iN nk EL hg => ?_⟩
  ·cases k with
   |zero=>
    simp only [cj,nth,Option.some.injEq] at iy;exact ⟨v,by simpa using q1 A' iy⟩
   |succ k=>
    have:=g1 k A' iy;rw [show j+1+k=j+(k+1) by omega] at this;show ∃v,OwnAt c w (f (j+(k+1))) (if j+(k+1)=j then lc else lcs (j+(k+1))) A' v;rw [if_neg (by omega)];exact this
  ·have gM:=g2 c2 lO d g iN (fun k hk=>by
    have:c2.lc d (j+(k+1))=if j+(k+1)=j then lc else lcs (j+(k+1)):=nk (k+1) (by simp;exact hk)
    rw [if_neg (by omega)] at this;rw [show j+1+k=j+(k+1) by omega];exact this) (fun k A' hk iy=>by
     have:=EL (k+1) A' (by simp;exact hk) (by rw [show j+(k+1)=j+1+k by omega];exact iy);exact this) hg
   have h0:c2.lc d j=lc:=by
    have:=nk 0 (by simp);simpa using this
   obtain ⟨x,e1,e2⟩:=q2 c2 lO d g iN h0 (fun A hA=>by
    have:=EL 0 A (by simp) hA;simpa [cj,nth] using this) hg
   rw [e1];refine ⟨by simp [gM.1],fun k y z hy hz => ?_⟩
   cases k with
   |zero=>
    simp only [List.getElem?_cons_zero,Option.some.injEq] at hy hz;subst hy hz;exact e2
   |succ k=>exact gM.2 k y z (by simpa using hy) (by simpa using hz)
theorem nv.boxed {X:Lb→Prop} {w0:World} {mu:Mu} {c:Cz} {st:St} {a:Act} {w:World} (h:nv X w0 mu c st a w) {b g i:Nat} {s0:Sl} {UL:List CV} {os:List OV} {v:Value} (mV:nth st b=some s0) (G8:fM st b g=some UL) (hv:v=.pointer (some ⟨c.bx b,0,none⟩))
  (hB:J7 c w i os v):∃c',nv (fun l=>X l∧l≠.box b) w0 mu c' (sY (fun s=>{ s with box:=some (bV b (s0.ag+1) 0 os),bT:=cj os,ag:=s0.ag+1 }) st b) a w∧
   Fw c st w c' (sY (fun s=>{ s with box:=some (bV b (s0.ag+1) 0 os),bT:=cj os,ag:=s0.ag+1 }) st b) w∧Pass c c' (fun l=>(∀y,l≠.dC i y)∧l≠.xK i):=by
 obtain ⟨rn,vs,ty,h1,h2,h3,h4⟩:=hB;obtain ⟨lcs,g1,g2⟩:=cD.cells os 0 _ h4;rw [hv] at h1;have e:c.bx b=rn:=by injection h1 with h1;injection h1 with h1;injection h1
 obtain ⟨_,ais,hg',Zj⟩:=j5 G8;rw [mV] at ais;cases ais
 let c':=c.ia (ug i b) c.bx (fun s j=>if s=b then lcs j else c.lc s j)
 let bP:=sY (fun s=>{ s with box:=some (bV b (s0.ag+1) 0 os),bT:=cj os,ag:=s0.ag+1 }) st b
 have hn:∀s,nth bP s=if s=b then some { s0 with box:=some (bV b (s0.ag+1) 0 os),bT:=cj os,ag:=s0.ag+1 } else nth st s:=by
  intro s;show nth (sY _ st b) s=_;rw [kZ]
  by_cases e:s=b
  ·subst e;simp [mV]
  ·simp [e]
 have Nq:gJ bP b=s0.ag+1:=by unfold gJ;rw [hn];simp
 have Nr:gJ st b=s0.ag:=by unfold gJ;rw [mV]
 have ht:=Jn i b;have lN:Fw c st w c' bP w:={
  stays:=rF c w _ _ _
  refs:=fun a' j' g' A' hg iy=>by
   obtain ⟨sl,k1,k2,k3⟩:=dB iy;rw [hn] at k1
   by_cases e:a'=b
   ·rw [if_pos e] at k1
    cases k1
    subst e;simp only at k2;omega
   ·rw [if_neg e] at k1;exact ⟨A',BF k1 k2 k3,rfl,rfl,by show (if a'=b then _ else _)=_;rw [if_neg e],fun _=>⟨rfl,fun _ _ _ _=>rfl⟩⟩
  G0:=fun b' g' sj hg Pw=>by
   obtain ⟨sl,k1,k2,k3⟩:=j5 Pw;rw [hn] at k1
   by_cases e:b'=b
   ·rw [if_pos e] at k1
    cases k1
    subst e;exact ⟨⟨UL,by unfold fM;rw [mV];simp at k2;simp [k2,Zj]⟩,rfl⟩
   ·rw [if_neg e] at k1;exact ⟨⟨sj,by unfold fM;rw [k1];simp [k2,k3]⟩,rfl⟩
  gA:=fun a'=>by
   by_cases e:a'=b
   ·subst e;rw [Nq,Nr];omega
   ·unfold gJ;rw [hn,if_neg e];exact Nat.le_refl _
  gB:=fun a'=>by
   by_cases e:a'=b
   ·subst e;unfold jW;rw [hn,if_pos rfl,mV];exact Nat.le_refl _
   ·unfold jW;rw [hn,if_neg e];exact Nat.le_refl _
  gE:=fun a'=>by
   by_cases e:a'=b
   ·subst e;unfold wD;rw [hn,if_pos rfl,mV];exact Nat.le_refl _
   ·unfold wD;rw [hn,if_neg e];exact Nat.le_refl _ }
 have Ns:∀k A,cE bP b k (s0.ag+1)=some A→nth (cj os) k=some (some A):=by
  intro k A hA;obtain ⟨sl,k1,k2,k3⟩:=dB hA;rw [hn,if_pos rfl] at k1
  cases k1
  exact k3
 refine ⟨c',h.ia ht lN (fun t => ?_) (fun s sl cs hX hs hb => ?_) (fun s j sl A hX hs hA => ?_),lN,⟨fun k l hl hk => ?_,fun k hk=>Cz.so.2 hk⟩⟩
 ·have:dI bP t=dI st t:=by
   unfold dI;rw [hn]
   by_cases e:t=b
   ·subst e;rw [if_pos rfl,mV]
   ·rw [if_neg e]
  rw [this];exact lN.vi (h.je t)
 ·rw [hn] at hs
  by_cases e':s=b
  ·subst e';rw [if_pos rfl] at hs
   cases hs
   simp only [Option.some.injEq] at hb;subst hb;refine ⟨?_,vs,ty,by show w.heap[c.bx s]?=_;rw [e];exact h3,?_⟩
   ·show (c.own (c.bx s)).map (ug i s)=some (.box s);rw [e,h2];simp [ug]
   ·exact g2 c' bP s (s0.ag+1) (fun b hb=>Cz.so.2 hb) (fun k _=>by show (if s=s then _ else _)=_;rw [if_pos rfl]) (fun k A _ hA=>Ns k A (by simpa using hA)) (by rw [Nq];exact Nat.le_refl _)
  ·rw [if_neg e'] at hs;exact (h.boxes s sl cs (fun SI=>hX ⟨SI,by rintro e2;injection e2 with e2;exact e' e2⟩) hs hb).ia ht lN rfl
 ·rw [hn] at hs
  by_cases e':s=b
  ·subst e';rw [if_pos rfl] at hs
   cases hs
   obtain ⟨v',xh⟩:=g1 j A hA;exact xh.arr (by simp) (by simp [ug])
  ·rw [if_neg e'] at hs;exact (h.bT s j sl A (fun SI=>hX ⟨SI,by simp⟩) hs hA).ia ht (by simp [e'])
 ·show (c.own k).map (ug i b)=_;rw [hk];simp only [Option.map_some,Option.some.injEq]
  cases l with
  |dC x y=>simp only [ug];rw [if_neg];rintro rfl;exact hl.1 y rfl
  |xK x=>simp only [ug];rw [if_neg];rintro rfl;exact hl.2 rfl
  |_=>rfl
end Go.TM
namespace Go.TM
open Go Go.RowKit
def Lb.Nt:Lb→Option Lb
 |.dC i j=>some (.dC i j)
 |.xK i=>some (.xK i)
 |.kK j=>some (.kK j)
 |_=>none
noncomputable def Cz.merge (c c1:Cz) (n:Nat) (m:Nat→Prop):Cz:=
 { bx:=c.bx,lc:=c.lc,own:=fun b=>have:=Classical.propDecidable (b<n∧¬m b);if b<n∧¬m b then c.own b else (c1.own b).bind Lb.Nt }
theorem Cz.xO {c c1:Cz} {n:Nat} {m:Nat→Prop} {b:Nat} (h:b<n∧¬m b):(c.merge c1 n m).own b=c.own b:=by
 unfold Cz.merge;simp only;rw [if_pos h]
theorem Cz.EM {c c1:Cz} {n:Nat} {m:Nat→Prop} {b:Nat} (h:¬(b<n∧¬m b)):(c.merge c1 n m).own b=(c1.own b).bind Lb.Nt:=by
 unfold Cz.merge;simp only;rw [if_neg h]
theorem SJ {u:List Lb} {a j:Nat} (h:Lb.sp a j∈u):qf u a=true:=by
 unfold qf;exact List.any_eq_true.2 ⟨_,h,by simp⟩
theorem Kb (u:List Lb):(st:St)→(a s:Nat)→nth (tX u a st) s=(nth st s).map fun x=>bif qf u (a+s) then { x with ep:=x.ep+1 } else x
 | [],_,_=>rfl
 |x::l,a,0=>rfl
 |x::l,a,s+1=>by
  show nth (tX u (a+1) l) s=_;rw [Kb u l (a+1) s,show a+1+s=a+(s+1) by omega];rfl
theorem vr (u:List Lb) (st:St) (s:Nat):nth (tX u 0 st) s=(nth st s).map fun x=>bif qf u s then { x with ep:=x.ep+1 } else x:=by
 rw [Kb,Nat.zero_add]
theorem SK (u:List Lb) (st:St) (t:Nat):dI (tX u 0 st) t=dI st t:=by
 unfold dI;rw [vr]
 cases nth st t<;>cases qf u t<;>rfl
theorem SL (u:List Lb) (st:St) (a j g:Nat):cE (tX u 0 st) a j g=cE st a j g:=by
 unfold cE;rw [vr]
 cases nth st a<;>cases qf u a<;>rfl
theorem SM (u:List Lb) (st:St) (b g:Nat):fM (tX u 0 st) b g=fM st b g:=by
 unfold fM;rw [vr]
 cases nth st b<;>cases qf u b<;>rfl
theorem Nu (u:List Lb) (st:St) (a:Nat):gJ (tX u 0 st) a=gJ st a∧jW (tX u 0 st) a=jW st a:=by
 unfold gJ jW;rw [vr]
 cases nth st a<;>cases qf u a<;>exact ⟨rfl,rfl⟩
theorem Nv (u:List Lb) (st:St) (a:Nat):wD st a≤wD (tX u 0 st) a∧(wD (tX u 0 st) a=wD st a→nth st a=none∨qf u a=false):=by
 unfold wD;rw [vr]
 cases nth st a<;>cases qf u a<;>simp
theorem Rel.ait {w0:World} {mu:Mu} {c:Cz} {st:St} {a:Act} {w:World} (h:Rel w0 mu c st a w) {μ:Mu} {c1:Cz} {w':World} (hb:FN w μ c1 w') {X:Lb→Prop} (hm:∀b,μ.m b→∃l,c.own b=some l∧X l) (hX:∀l,X l→l≠.out) {u:List Lb} (hu:∀a j,X (.sp a j)→qf u a=true) :
  nv X w0 mu (c.merge c1 w.heap.size μ.m) (tX u 0 st) a w'∧Fw c st w (c.merge c1 w.heap.size μ.m) (tX u 0 st) w'∧(∀b l,c.own b=some l→¬X l→w'.heap[b]?=w.heap[b]?∧(c.merge c1 w.heap.size μ.m).own b=c.own b)∧(∀b l,l.Nt=some l→c1.own b=some l→(c.merge c1 w.heap.size μ.m).own b=some l)∧((∀b,μ.ok b→c.own b=none)→∀b,c1.ok b→(c.merge c1 w.heap.size μ.m).ok b):=by
 have oN:w.heap.size≤w'.heap.size:=hb.kept.2.2.2;have wE:lf w w' c.ok (c.merge c1 w.heap.size μ.m).ok:={
  size:=oN
  block:=fun b dO iN=>hb.old b dO (fun M3=>by
   obtain ⟨l,hl,_⟩:=hm b M3;unfold Cz.ok at iN;rw [iN] at hl;cases hl)
  ok:=fun b dO iN=>by
   unfold Cz.ok;rw [Cz.xO ⟨dO,fun M3=>by
    obtain ⟨l,hl,_⟩:=hm b M3;unfold Cz.ok at iN;rw [iN] at hl;cases hl⟩]
   exact iN }
 have keep:∀b l,c.own b=some l→¬X l→w'.heap[b]?=w.heap[b]?∧(c.merge c1 w.heap.size μ.m).own b=c.own b:=by
  intro b l hl hn;have dO:=(h.owned b l hl).1;have M3:¬μ.m b:=fun M3=>by
   obtain ⟨l',By,hx⟩:=hm b M3;rw [hl] at By;cases By;exact hn hx
  exact ⟨hb.old b dO M3,Cz.xO ⟨dO,M3⟩⟩
 have lN:Fw c st w (c.merge c1 w.heap.size μ.m) (tX u 0 st) w':={
  stays:=wE
  refs:=fun a' j g A' _ hA=>by
   rw [SL] at hA;refine ⟨A',hA,rfl,rfl,rfl,fun he => ?_⟩;rcases (Nv u st a').2 he with e | e
   ·unfold cE at hA;rw [e] at hA
    cases hA
   ·have mU:∀j,¬X (.sp a' j):=fun j hx=>by rw [hu a' j hx] at e;cases e
    obtain ⟨sl0,mV,_,Su⟩:=dB hA;have h0:=h.bT a' j sl0 A' mV Su;refine ⟨rfl,fun b o cap nk => ?_⟩;unfold fy at h0;rw [nk] at h0;have h1:=h0.1
    cases ku:A'.own with
    |true=>
     rw [ku] at h1;exact (keep b _ h1 (mU j)).1
    |false=>
     rw [ku] at h1;exact wE.block b (by obtain ⟨_,_,⟨cur,te,h3,_⟩,_⟩:=h0;exact (Array.getElem?_eq_some_iff.1 h3).1) h1
  G0:=fun b g cs _ hc=>⟨⟨cs,by rwa [SM] at hc⟩,rfl⟩
  gA:=fun a'=>by rw [(Nu u st a').1];exact Nat.le_refl _
  gB:=fun a'=>by rw [(Nu u st a').2];exact Nat.le_refl _
  gE:=fun a'=>(Nv u st a').1 }
 refine ⟨⟨fun t=>by rw [SK];exact lN.vi (h.je t),fun s sl cs hn hs G8 => ?_,fun s j sl A hn hs hA => ?_,fun b l hl => ?_,fun b dO hl => ?_,?_,fun k hk hmu => ?_,h.plain,fun p hp=>lN.hY (h.hY p hp)⟩,lN,keep,fun b l hk hl => ?_,fun iN b h1 => ?_⟩
 ·rw [vr] at hs;obtain ⟨sl0,mV,rfl⟩:=Option.map_eq_some_iff.1 hs;have h0:=h.boxes s sl0 cs mV (by cases hq:qf u s<;>rw [hq] at G8<;>exact G8);obtain ⟨k1,k2⟩:=keep _ _ h0.1 hn;exact h0.go lN rfl k2 k1
 ·rw [vr] at hs;obtain ⟨sl0,mV,rfl⟩:=Option.map_eq_some_iff.1 hs;have h0:=h.bT s j sl0 A mV (by cases hq:qf u s<;>rw [hq] at hA<;>exact hA);exact h0.go wE rfl (fun b g1=>keep b _ g1 hn)
 ·by_cases e:b<w.heap.size∧¬μ.m b
  ·rw [Cz.xO e] at hl;have:=h.owned b l hl;exact ⟨Nat.lt_of_lt_of_le this.1 oN,this.2⟩
  ·rw [Cz.EM e] at hl;obtain ⟨k,hk,e2⟩:=Option.bind_eq_some_iff.1 hl;obtain ⟨g1,g2⟩:=hb.owned b k hk;refine ⟨g1,.inr ?_⟩;have Jf:k≠.out:=by rintro rfl;simp [Lb.Nt] at e2
   by_cases dO:b<w.heap.size
   ·have M3:μ.m b:=Classical.not_not.1 (fun h=>e ⟨dO,h⟩);obtain ⟨l',By,hx⟩:=hm b M3;rcases (h.owned b l' By).2 with q | q
    ·exact absurd q (hX l' hx)
    ·exact q
   ·have:=h.kept.2.2.2;exact .inl (by omega)
 ·by_cases e:b<w.heap.size∧¬μ.m b
  ·rw [Cz.xO e] at hl;exact h.free b dO hl
  ·have acb:b<w.heap.size:=Nat.lt_of_lt_of_le dO h.kept.2.2.2;have M3:μ.m b:=Classical.not_not.1 (fun h=>e ⟨acb,h⟩);obtain ⟨l',By,hx⟩:=hm b M3;rcases (h.owned b l' By).2 with q | q | q
   ·exact absurd q (hX l' hx)
   ·omega
   ·exact .inl q
 ·exact ⟨hb.kept.1.trans h.kept.1,hb.kept.2.1.trans h.kept.2.1,hb.kept.2.2.1.trans h.kept.2.2.1,Nat.le_trans h.kept.2.2.2 oN⟩
 ·have acb:k<w.heap.size:=Nat.lt_of_lt_of_le hk h.kept.2.2.2;rw [hb.old k acb (fun M3 => ?_)]
  ·exact h.old k hk hmu
  ·obtain ⟨l',By,hx⟩:=hm k M3;rcases (h.owned k l' By).2 with q | q | q
   ·exact hX l' hx q
   ·omega
   ·exact hmu q
 ·rw [Cz.EM (fun e => ?_),hl]
  ·exact hk
  ·rcases (hb.owned b l hl).2 with q | q | q
   ·subst q;simp [Lb.Nt] at hk
   ·omega
   ·exact e.2 q
 ·unfold Cz.ok at h1 ⊢
  by_cases e:b<w.heap.size∧¬μ.m b
  ·rw [Cz.xO e];rcases hb.free b e.1 h1 with q | q
   ·exact absurd q e.2
   ·exact iN b q
  ·rw [Cz.EM e,h1];rfl
theorem Cz.Nw (c:Cz) (bx:Nat→Nat) (lc:Nat→Nat→Loc):(c.ia id bx lc).own=c.own:=by
 funext b
 unfold Cz.ia;simp
theorem Cp {w0:World} {mu:Mu} {a:Act} {w:World}:(ks:List Lb)→{X:Lb→Prop}→{c:Cz}→{st:St}→nv X w0 mu c st a w→
  ∃c',nv (fun l=>X l∧∀s j,Lb.sp s j∈ks→l≠.sp s j) w0 mu c' (sk st ks) a w∧Fw c st w c' (sk st ks) w∧c'.own=c.own
 | [],X,c,st,h=>⟨c,h.mono (fun l hl=>⟨hl,by simp⟩),Fw.refl c st w,rfl⟩
 |k::ks,X,c,st,h=>by
  have skip:sk st (k::ks)=sk st ks→(∀s j,k≠.sp s j)→∃c',nv (fun l=>X l∧∀s j,Lb.sp s j∈k::ks→l≠.sp s j) w0 mu c' (sk st (k::ks)) a w∧Fw c st w c' (sk st (k::ks)) w∧c'.own=c.own:=by
   intro e hk;obtain ⟨c',h1,h2,h3⟩:=Cp ks h;rw [e];refine ⟨c',h1.mono (fun l hl=>⟨hl.1,fun s j hm => ?_⟩),h2,h3⟩;rcases List.mem_cons.1 hm with e2 | hm
   ·exact absurd e2.symm (hk s j)
   ·exact hl.2 s j hm
  cases k with
  |sp s j=>
   obtain ⟨h1,h2⟩:=h.kill s j;obtain ⟨c',h3,h4,h5⟩:=Cp ks h1;refine ⟨c',h3.mono (fun l hl=>⟨hl.1.1,fun s' j' hm => ?_⟩),h2.trans h4,h5.trans (Cz.Nw _ _ _)⟩;rcases List.mem_cons.1 hm with e2 | hm
   ·cases e2;exact hl.1.2
   ·exact hl.2 s' j' hm
  |_=>exact skip rfl (by simp)
def EN (m:Pm):V→List Lb
 |.one (.ptr b _ _)=>[.box b]
 |.one (.ref a j _ _)=>match m with
  |.io=>[.sp a j]
  |_=>[]
 |.agg cs=>match m with
  |.dR=>cs.filterMap fun x=>match x with | .ref a j _ _=>some (.sp a j) | _=>none
  |_=>[]
 |_=>[]
def Vy (st:St) (m:Pm×V) (av:AV):Prop:=∃u q r,jE st m.1 m.2=some (av,u,q,r)
theorem Nx {st:St} {own:Bool}:(cs:List CV)→{os:List OV}→{u:List (Option Lb)}→{r:List (Nat×Nat)}→js st own cs=some (os,u,r)→∀(k:Nat) {a j g:Nat} ,cs[k]?=some (.ref a j g .full)→os[k]?=(cE st a j g).map fun A=>bif own&&A.own then .own A else .shr A.r A.xs
 | [],_,_,_,h=>by intro k a j g hk;simp at hk
 |x::cs,os,u,r,h=>by
  unfold js at h
  cases hc:ld st own x with
  |none=>simp [hc] at h
  |some p=>
   obtain ⟨o,u1,r1⟩:=p
   cases hq:js st own cs with
   |none=>simp [hc,hq] at h
   |some q=>
    obtain ⟨EF,us,rs⟩:=q;simp only [hc,hq,Option.some.injEq,Prod.mk.injEq] at h;obtain ⟨rfl,rfl,_⟩:=h;intro k a j g hk
    cases k with
    |succ k=>simpa using Nx cs hq k (by simpa using hk)
    |zero=>
     simp only [List.getElem?_cons_zero,Option.some.injEq] at hk;subst hk;unfold ld at hc;simp only at hc
     cases hA:cE st a j g with
     |none=>simp [hA] at hc
     |some A=>
      simp only [hA] at hc
      cases hm:A.md.Si with
      |true=>simp [hm] at hc
      |false=>
      simp only [hm,cond_false,View.isFull,Bool.or_true,Bool.and_true] at hc
      cases hb:(own&&A.own)<;>simp only [hb,cond_true,cond_false,Option.some.injEq,Prod.mk.injEq] at hc<;>obtain ⟨rfl,_⟩:=hc<;>simp [hb,View.app]
theorem Hs {w0 wb:World} {mu:Mu} {a:Act} {w:World} {c0:Cz} {EG:St} {i:Nat} {As:List (Option ns)}:(cs:List CV)→(j0:Nat)→(us:List Value)→{X:Lb→Prop}→{c:Cz}→{st bP:St}→nv X w0 mu c st a w→Fw c0 EG wb c st w→
  (∀(k:Nat) (x:CV) (v:Value),cs[k]?=some x→us[k]?=some v→qi c0 EG wb x v)→
  (∀(k s j g:Nat) (vw:View),cs[k]?=some (.ref s j g vw)→∃A B u,cE EG s j g=some A∧nth As (j0+k)=some (some B)∧us[k]?=some u∧B.r.width=A.r.width∧B.xs.length=A.xs.length∧OwnAt c w (.dC i (j0+k)) (c0.lc s j) B u)→
  GY st j0 cs As=some bP→
  ∃c',nv (fun l=>X l∧∀s j g vw,CV.ref s j g vw∈cs→l≠.sp s j) w0 mu c' bP a w∧Fw c0 EG wb c' bP w∧Pass c c' (fun l=>∀y,l≠.dC i y)
 | [],j0,us,X,c,st,bP,h,lN,_,_,hv=>by
  simp only [GY,Option.some.injEq] at hv;subst hv;exact ⟨c,h.mono (fun l hl=>⟨hl,by simp⟩),lN,⟨fun _ _ _ h=>h,fun _ h=>h⟩⟩
 |x::cs,j0,us,X,c,st,bP,h,lN,hr,hB,hv=>by
  have skip:(∀s j g vw,x≠.ref s j g vw)→GY st (j0+1) cs As=some bP→∃c',nv (fun l=>X l∧∀s j g vw,CV.ref s j g vw∈x::cs→l≠.sp s j) w0 mu c' bP a w∧Fw c0 EG wb c' bP w∧Pass c c' (fun l=>∀y,l≠.dC i y):=by
   intro hx hv;obtain ⟨c',g1,g2,g3⟩:=Hs (i:=i) cs (j0+1) us.tail h lN (fun k y v hk hv=>hr (k+1) y v (by simpa using hk) (by simpa using hv)) (fun k s j g vw hk=>by
    obtain ⟨A,B,u,q1,q2,q3,q4,q5,q6⟩:=hB (k+1) s j g vw (by simpa using hk);refine ⟨A,B,u,q1,by rw [show j0+1+k=j0+(k+1) by omega];exact q2,by simpa using q3,q4,q5,by rw [show j0+1+k=j0+(k+1) by omega];exact q6⟩) hv
   refine ⟨c',g1.mono (fun l hl=>⟨hl.1,fun s j g vw hm => ?_⟩),g2,g3⟩;rcases List.mem_cons.1 hm with e | hm
   ·exact absurd e.symm (hx s j g vw)
   ·exact hl.2 s j g vw hm
  cases x with
  |ref s j g vw=>
   unfold GY at hv
   split at hv
   ·rename_i B A1 hnB hA1;obtain ⟨A,B',u,q1,q2,q3,q4,q5,q6⟩:=hB 0 s j g vw rfl;rw [Nat.add_zero] at q2 q6;rw [hnB] at q2;simp only [Option.some.injEq] at q2;subst q2;have hr0:=hr 0 _ u rfl q3;obtain ⟨A0',p1,p2,p3,p4,_⟩:=lN.refs s j g A1 hr0.2.1 hA1;rw [q1] at p1;cases p1;have hO':OwnAt c w (.dC i j0) (c.lc s j) B u:=by rw [p4];exact q6
    obtain ⟨g1,g2⟩:=h.io hA1 (q4.trans p2.symm) (q5.trans p3.symm) hO';have Kc:∀b l,l≠.dC i j0→c.own b=some l→(c.ia (xj i j0 s j) c.bx c.lc).own b=some l:=by
     intro b l hl hb;show (c.own b).map _=_;rw [hb];simp only [Option.map_some,Option.some.injEq]
     cases l with
     |dC x y=>simp only [xj];rw [if_neg];rintro ⟨rfl,rfl⟩;exact hl rfl
     |_=>rfl
    obtain ⟨c',k1,k2,k3⟩:=Hs (i:=i) cs (j0+1) us.tail g1 (lN.trans g2) (fun k y v hk hv=>hr (k+1) y v (by simpa using hk) (by simpa using hv)) (fun k s' j' g' vw' hk=>by
     obtain ⟨A,B,u,q1,q2,q3,q4,q5,q6⟩:=hB (k+1) s' j' g' vw' (by simpa using hk);refine ⟨A,B,u,q1,by rw [show j0+1+k=j0+(k+1) by omega];exact q2,by simpa using q3,q4,q5,?_⟩;rw [show j0+1+k=j0+(k+1) by omega];exact q6.pass (fun b hb=>Kc b _ (by simp) hb) (.inl fun b hb=>Cz.so.2 hb)) hv
    refine ⟨c',k1.mono (fun l hl=>⟨hl.1.1,fun s' j' g' vw' hm => ?_⟩),k2,⟨fun b l hl hb=>k3.dC b l hl (Kc b l (hl j0) hb),fun b hb=>k3.ok b (Cz.so.2 hb)⟩⟩;rcases List.mem_cons.1 hm with e | hm
    ·cases e;exact hl.1.2
    ·exact hl.2 s' j' g' vw' hm
   ·cases hv
  |_=>exact skip (by simp) hv
theorem Ht {w0 wb:World} {mu:Mu} {a:Act} {w:World} {c0:Cz} {EG:St} {lc:Nat→Nat→Loc}:(ms:List (Pm×V))→(i:Nat)→(fS:List AV)→(xs:List Value)→(es:List XV)→{X:Lb→Prop}→{c:Cz}→{st bP:St}→nv X w0 mu c st a w→Fw c0 EG wb c st w→
  (∀(k:Nat) (m:Pm×V) (x:Value),ms[k]?=some m→xs[k]?=some x→hU c0 EG wb m.2 x)→(∀(k:Nat) (m:Pm×V) (av:AV),ms[k]?=some m→fS[k]?=some av→Vy EG m av)→ms.length=fS.length→ms.length=xs.length→(∀(k:Nat) (m:Pm×V),ms[k]?=some m→lc (i+k)=FO c0 m.2)→
  kx c w lc i fS xs es→yp st ms es=some bP→
  ∃c',nv (fun l=>X l∧∀m∈ms,l∉EN m.1 m.2) w0 mu c' bP a w∧Fw c0 EG wb c' bP w∧Pass c c' (fun l=>(∃j,l=.kK j)∨l.real=true)
 | [],i,fS,xs,es,X,c,st,bP,h,lN,_,_,_,_,_,hx,hv=>by
  cases es with
  |nil=>
   simp only [yp,Option.some.injEq] at hv;subst hv;exact ⟨c,h.mono (fun l hl=>⟨hl,by simp⟩),lN,⟨fun _ _ _ h=>h,fun _ h=>h⟩⟩
  |cons _ _=>simp [yp] at hv
 |(m,v)::ms,i,[],xs,es,X,c,st,bP,h,lN,hr,he,hn,hn2,nk,hx,hv=>by simp at hn
 |(m,v)::ms,i,av::fS,[],es,X,c,st,bP,h,lN,hr,he,hn,hn2,nk,hx,hv=>by simp at hn2
 |(m,v)::ms,i,av::fS,x::xs,es,X,c,st,bP,h,lN,hr,he,hn,hn2,nk,hx,hv=>by
  have hr0:=hr 0 (m,v) x rfl rfl;obtain ⟨u,q,r,wB⟩:=he 0 (m,v) av rfl rfl;have acd:=nk 0 (m,v) rfl;simp only [Nat.add_zero] at acd;have hr':∀(k:Nat) (m:Pm×V) (x:Value),ms[k]?=some m→xs[k]?=some x→hU c0 EG wb m.2 x:=fun k m' x' h1 h2=>hr (k+1) m' x' (by simpa using h1) (by simpa using h2)
  have he':∀(k:Nat) (m:Pm×V) (av:AV),ms[k]?=some m→fS[k]?=some av→Vy EG m av:=fun k m' x' h1 h2=>he (k+1) m' x' (by simpa using h1) (by simpa using h2)
  have abZ:∀(k:Nat) (m:Pm×V),ms[k]?=some m→lc (i+1+k)=FO c0 m.2:=fun k m' h1=>by
   have:=nk (k+1) m' (by simpa using h1)
   rwa [show i+(k+1)=i+1+k by omega] at this
  have Zk:ms.length=fS.length:=by simpa using hn
  have anF:ms.length=xs.length:=by simpa using hn2
  unfold yp at hv
  cases hb:wM st m v es with
  |none=>simp [hb] at hv
  |some p=>
   obtain ⟨G7,es1⟩:=p;simp only [hb] at hv;have go:∀ {X1:Lb→Prop} {c1:Cz},nv X1 w0 mu c1 G7 a w→Fw c0 EG wb c1 G7 w→(∀l,X1 l→X l∧l∉EN m v)→kx c1 w lc (i+1) fS xs es1→Pass c c1 (fun l=>(∃j,l=.kK j)∨l.real=true)→
     ∃c',nv (fun l=>X l∧∀m'∈(m,v)::ms,l∉EN m'.1 m'.2) w0 mu c' bP a w∧Fw c0 EG wb c' bP w∧Pass c c' (fun l=>(∃j,l=.kK j)∨l.real=true):=by
    intro X1 c1 g1 g2 g3 g4 g5;obtain ⟨c',k1,k2,k3⟩:=Ht ms (i+1) fS xs es1 g1 g2 hr' he' Zk anF abZ g4 hv;refine ⟨c',k1.mono (fun l hl=>⟨(g3 l hl.1).1,fun m' M3 => ?_⟩),k2,⟨fun b l hl hb=>k3.dC b l hl (g5.dC b l hl hb),fun b hb=>k3.ok b (g5.ok b hb)⟩⟩;rcases List.mem_cons.1 M3 with rfl | M3
    ·exact (g3 l hl.1).2
    ·exact hl.2 m' M3
   have nW:EN m v=[]→G7=st→es1=es→(∃ag os,av=.val ag os)→∃c',nv (fun l=>X l∧∀m'∈(m,v)::ms,l∉EN m'.1 m'.2) w0 mu c' bP a w∧Fw c0 EG wb c' bP w∧Pass c c' (fun l=>(∃j,l=.kK j)∨l.real=true):=by
    rintro e1 rfl rfl ⟨ag,os,rfl⟩
    exact go h lN (fun l hl=>⟨hl,by rw [e1];simp⟩) hx ⟨fun _ _ _ h=>h,fun _ h=>h⟩
   cases v with
   |qd us=>simp [jE] at wB
   |agg cs=>
    have yy:∀u q r,(match js EG m.rj cs with | some (os,u,r)=>some (AV.val true os,dJ u,dJ u,r) | none=>none)=some (av,u,q,r)→∃ag os,av=.val ag os:=by
     intro u q r wB
     cases hq:js EG m.rj cs with
     |none=>simp [hq] at wB
     |some p=>
      obtain ⟨os,us,rs⟩:=p;simp only [hq,Option.some.injEq,Prod.mk.injEq] at wB;exact ⟨_,_,wB.1.symm⟩
    unfold jE at wB
    cases m with
    |shr=>
     simp only [wM,Option.some.injEq,Prod.mk.injEq] at hb;exact nW rfl hb.1.symm hb.2.symm (yy _ _ _ wB)
    |own=>
     simp only [wM,Option.some.injEq,Prod.mk.injEq] at hb;exact nW rfl hb.1.symm hb.2.symm (yy _ _ _ wB)
    |pick _=>
     simp only [wM,Option.some.injEq,Prod.mk.injEq] at hb;exact nW rfl hb.1.symm hb.2.symm (yy _ _ _ wB)
    |io=>
     simp only [wM,Option.some.injEq,Prod.mk.injEq] at hb;exact nW rfl hb.1.symm hb.2.symm (yy _ _ _ wB)
    |dR=>
     simp only at wB
     cases hq:js EG true cs with
     |none=>simp [hq] at wB
     |some p=>
      obtain ⟨os,us,rs⟩:=p;simp only [hq] at wB;obtain ⟨q8,BV⟩:=bI wB;simp only [Option.some.injEq,Prod.mk.injEq] at BV;obtain ⟨rfl,_⟩:=BV;obtain ⟨As,l,rfl,⟨us',rfl,hX⟩,gM⟩:=hx;unfold wM at hb;obtain ⟨lO,M4,e2⟩:=Option.map_eq_some_iff.1 hb;injection e2 with e2 e3;subst e2 e3;obtain ⟨vs0,e0,hl0⟩:=hr0;injection e0 with e0;subst e0;obtain ⟨c1,g1,g2,g3⟩:=Hs (i:=i) (As:=As) cs 0 us'.toList h lN (fun k x v hk hv=>hl0.2 k x v hk (by simpa using hv)) (fun k s j g vw hk=>by
       have Gw:=List.mem_of_getElem? hk;have Jg:=List.all_eq_true.1 q8 _ Gw;unfold U7 at Jg;rw [Bool.and_eq_true] at Jg
       cases hA:cE EG s j g with
       |none=>rw [hA] at Jg;cases Jg.2
       |some A=>
        have Vx:vw=.full:=by
         cases vw with
         |full=>rfl
         |«from» _=>cases Jg.1
         |sub _ _=>cases Jg.1
        subst Vx;rw [hA] at Jg;have ho:os[k]?=some (.own A):=by
         have:=Nx cs hq k hk;rw [hA] at this;have Sz:A.own=true:=Jg.2;simpa [Sz] using this
        obtain ⟨B,u,k1,k2,k3,k4,k5⟩:=hX k A ho;refine ⟨A,B,u,rfl,by rw [Nat.zero_add];exact k1,k2,k3,k4,?_⟩;have:lc i k=c0.lc s j:=by
         rw [acd];show PG c0 cs[k]?=_;rw [hk];rfl
        rw [←this,Nat.zero_add];exact k5) M4
      refine go g1 g2 (fun l hl=>⟨hl.1,fun hm => ?_⟩) ?_ ⟨fun b l hl=>g3.dC b l (hl.elim (by rintro ⟨j,rfl⟩;simp) (by intro h;cases l<;>simp_all [Lb.real])),g3.ok⟩
      ·obtain ⟨x,PA,LZ⟩:=List.mem_filterMap.1 hm
       cases x with
       |ref s j g vw=>simp only [Option.some.injEq] at LZ;exact hl.2 s j g vw PA LZ.symm
       |_=>cases LZ
      ·exact kx.pass fS (i+1) (fun b k hk hb=>g3.dC b _ (by simp) hb) (fun b k j hk hb=>g3.dC b _ (by intro y;simp;omega) hb) xs _ (.inl g3.ok) gM
   |one cx=>
    cases cx with
    |ptr b g off=>
     unfold wM at hb
     cases es with
     |nil=>simp at hb
     |cons e es2=>cases e with
      |io _=>simp at hb
      |dR _=>simp at hb
      |box os=>
       simp only at hb
       split at hb
       ·rename_i s0 UL mV Zj;simp only [Option.some.injEq,Prod.mk.injEq] at hb;obtain ⟨rfl,rfl⟩:=hb;have Ny:∃os0,av=.box os0:=by
         unfold jE at wB;simp only at wB
         cases hq:fM EG b g with
         |none=>simp [hq] at wB
         |some cs=>
          simp only [hq] at wB
          cases Nd:js EG true cs with
          |none=>simp [Nd] at wB
          |some p=>
           obtain ⟨EF,us,rs⟩:=p;simp only [Nd] at wB;obtain ⟨_,BV⟩:=bI wB;simp only [Option.some.injEq,Prod.mk.injEq] at BV;exact ⟨_,BV.1.symm⟩
        obtain ⟨os0,rfl⟩:=Ny;obtain ⟨os1,l,e1,hB,gM⟩:=hx
        cases e1
        have hp:=(lN.vi (v:=x) hr0);have e2:=hp.2.2 UL Zj;have e3:x=.pointer (some ⟨c.bx b,0,none⟩):=by
         obtain ⟨rn,vs,ty,q1,_⟩:=hB;rw [e2] at q1 ⊢;injection q1 with q1;injection q1 with q1;injection q1 with q1 q2;rw [q2]
        obtain ⟨c1,g1,g2,g3⟩:=h.boxed mV Zj e3 hB;refine go g1 (lN.trans g2) (fun l hl=>⟨hl.1,by simp [EN];exact hl.2⟩) ?_ ⟨fun b l hl=>g3.dC b l (hl.elim (by rintro ⟨j,rfl⟩;simp) (by intro h;cases l<;>simp_all [Lb.real])),g3.ok⟩;exact kx.pass fS (i+1) (fun b k hk hb=>g3.dC b _ (by constructor<;>simp;omega) hb) (fun b k j hk hb=>g3.dC b _ (by constructor<;>simp;omega) hb) xs es2 (.inl g3.ok) gM
       ·cases hb
    |ref s j g vw=>
     have yy:m≠.io→∃ag os,av=.val ag os:=by
      intro hm;unfold jE at wB
      cases m with
      |io=>exact absurd rfl hm
      |shr=>
       cases hq:js EG Pm.shr.rj [.ref s j g vw] with
       |none=>simp [hq] at wB
       |some p=>obtain ⟨os,us,rs⟩:=p;simp only [hq,Option.some.injEq,Prod.mk.injEq] at wB;exact ⟨_,_,wB.1.symm⟩
      |dR=>
       cases hq:js EG Pm.dR.rj [.ref s j g vw] with
       |none=>simp [hq] at wB
       |some p=>obtain ⟨os,us,rs⟩:=p;simp only [hq,Option.some.injEq,Prod.mk.injEq] at wB;exact ⟨_,_,wB.1.symm⟩
      |own=>
       cases hq:js EG Pm.own.rj [.ref s j g vw] with
       |none=>simp [hq] at wB
       |some p=>obtain ⟨os,us,rs⟩:=p;simp only [hq,Option.some.injEq,Prod.mk.injEq] at wB;exact ⟨_,_,wB.1.symm⟩
      |pick pl=>
       cases hq:js EG (Pm.pick pl).rj [.ref s j g vw] with
       |none=>simp [hq] at wB
       |some p=>obtain ⟨os,us,rs⟩:=p;simp only [hq,Option.some.injEq,Prod.mk.injEq] at wB;exact ⟨_,_,wB.1.symm⟩
     cases m with
     |shr=>
      simp only [wM,Option.some.injEq,Prod.mk.injEq] at hb;exact nW rfl hb.1.symm hb.2.symm (yy (by simp))
     |dR=>
      simp only [wM,Option.some.injEq,Prod.mk.injEq] at hb;exact nW rfl hb.1.symm hb.2.symm (yy (by simp))
     |own=>
      simp only [wM,Option.some.injEq,Prod.mk.injEq] at hb;exact nW rfl hb.1.symm hb.2.symm (yy (by simp))
     |pick _=>
      simp only [wM,Option.some.injEq,Prod.mk.injEq] at hb;exact nW rfl hb.1.symm hb.2.symm (yy (by simp))
     |io=>
      unfold wM at hb;simp only at hb
      split at hb
      ·rename_i B es2 A2 Sz;simp only [Option.some.injEq,Prod.mk.injEq] at hb;obtain ⟨rfl,rfl⟩:=hb;have Ny:∃A0,av=.io A0∧cE EG s j g=some A0:=by
        unfold jE at wB
        cases vw with
        |full=>
         cases hA:cE EG s j g with
         |none=>simp [hA] at wB
         |some A=>
          simp only [hA] at wB;obtain ⟨_,BV⟩:=bI wB;simp only [Option.some.injEq,Prod.mk.injEq] at BV;exact ⟨A,BV.1.symm,rfl⟩
        |«from» _=>simp at wB
        |sub _ _=>simp at wB
       obtain ⟨A0,rfl,Sv⟩:=Ny;obtain ⟨B',l,e1,hw,hlen,hO,gM⟩:=hx
       cases e1
       obtain ⟨A0',q1,q2,q3,q4,_⟩:=lN.refs s j g A2 hr0.2.1 Sz;rw [Sv] at q1;cases q1;have hO':OwnAt c w (.dC i 0) (c.lc s j) B x:=by
        rw [q4];have:lc i 0=c0.lc s j:=by rw [acd];rfl
        rw [←this];exact hO
       obtain ⟨g1,g2⟩:=h.io Sz (hw.trans q2.symm) (hlen.trans q3.symm) hO';have Kc:∀b l,(∀y,l≠.dC i y)→c.own b=some l→(c.ia (xj i 0 s j) c.bx c.lc).own b=some l:=by
        intro b l hl hb;show (c.own b).map _=_;rw [hb];simp only [Option.map_some,Option.some.injEq]
        cases l with
        |dC x y=>simp only [xj];rw [if_neg];rintro ⟨rfl,_⟩;exact hl y rfl
        |_=>rfl
       refine go g1 (lN.trans g2) (fun l hl=>⟨hl.1,by simp [EN];exact hl.2⟩) ?_ ⟨fun b l hl=>Kc b l (hl.elim (by rintro ⟨j,rfl⟩;simp) (by intro h;cases l<;>simp_all [Lb.real])),fun b hb=>Cz.so.2 hb⟩;exact kx.pass fS (i+1) (fun b k hk hb=>Kc b _ (by simp) hb) (fun b k j hk hb=>Kc b _ (by intro y;simp;omega) hb) xs es2 (.inl fun b hb=>Cz.so.2 hb) gM
      ·cases hb
    |_=>
     simp only [wM,Option.some.injEq,Prod.mk.injEq] at hb;refine nW rfl hb.1.symm hb.2.symm ?_;unfold jE at wB;simp only at wB
     split at wB
     ·simp only [Option.some.injEq,Prod.mk.injEq] at wB;exact ⟨_,_,wB.1.symm⟩
     ·cases wB
end Go.TM
namespace Go.TM
open Go Go.RowKit
def Dx (d:Nat):Lb→Lb
 |.kK j=>.sp d j
 |l=>l
theorem Ch (d:Nat):FP (Dx d):=⟨fun l h=>by cases l<;>simp [Dx,Lb.real] at h ⊢⟩
theorem zY:(os ps:List OV)→cj (os++ps)=cj os++cj ps
 | [],ps=>rfl
 |o::os,ps=>by simp [cj,zY os ps]
theorem pt:(os:List OV)→(cj os).length=os.length
 | []=>rfl
 |o::os=>by simp [cj,pt os]
theorem Vz (d g j:Nat) (o:OV):∃x,bV d g j [o]=[x]:=by
 cases o<;>exact ⟨_,rfl⟩
theorem oC.vals {c:Cz} {w:World}:(rs:List RV)→(j:Nat)→(vs:List Value)→oC c w j rs vs→
  ∃lcs:Nat→Loc,(∀k A,nth (cj (rs.flatMap RV.An)) k=some (some A)→∃v,OwnAt c w (.kK (j+k)) (lcs (j+k)) A v)∧rs.length=vs.length∧(∀d g,(m8 d g j rs).length=rs.length)∧
   ∀(c2:Cz) (lO:St) (d g:Nat),(∀b,c.ok b→c2.ok b)→(∀k,k<(rs.flatMap RV.An).length→c2.lc d (j+k)=lcs (j+k))→(∀k A,k<(rs.flatMap RV.An).length→cE lO d (j+k) g=some A→nth (cj (rs.flatMap RV.An)) k=some (some A))→g≤gJ lO d→
    ∀(k:Nat) (x:V) (v:Value),(m8 d g j rs)[k]?=some x→vs[k]?=some v→Db c2 lO w x v
 | [],j,vs,h=>by
  subst h;exact ⟨fun _=>.nil,fun k A hA=>by simp [cj] at hA,rfl,fun _ _=>rfl,fun _ _ _ _ _ _ _ _ k x v hx=>by simp [m8] at hx⟩
 |r::rs,j,vs,h=>by
  obtain ⟨v,l,us,rfl,hL,hR,hV⟩:∃(v:Value) (l us:List Value),vs=v::l∧cD c w .kK j r.An us∧oC c w (j+r.An.length) rs l∧
    (∀(c2:Cz) (lO:St) (d g:Nat),iO c2 lO w (bV d g j r.An) us→Db c2 lO w (UY d g j r) v):=by
   cases r with
   |one o=>
    obtain ⟨v,l,h1,h2,h3⟩:=h;refine ⟨v,l,[v],h1,h2,h3,fun c2 lO d g hl => ?_⟩;unfold UY;obtain ⟨x,hx⟩:=Vz d g j o;show Db c2 lO w (match bV d g j [o] with | [c]=>.one c | _=>.one .bad) v;have hl:iO c2 lO w (bV d g j [o]) [v]:=hl;rw [hx] at hl ⊢;exact hl.2 0 x v rfl rfl
   |agg os=>
    obtain ⟨us,l,h1,h2,h3⟩:=h;exact ⟨.agg us,l,us.toList,h1,h2,h3,fun c2 lO d g hl=>⟨us,rfl,hl⟩⟩
   |ptr os=>
    obtain ⟨v,l,h1,⟨rn,us,ty,_,_,_,g4⟩,h3⟩:=h;exact ⟨v,l,.slice none 0 0::us.toList,h1,⟨_,rfl,g4⟩,h3,fun _ _ _ _ _=>trivial⟩
  obtain ⟨l1,a1,a2⟩:=cD.cells r.An j us hL;obtain ⟨l2,b1,b2,b3,b4⟩:=oC.vals rs (j+r.An.length) l hR;have aaH:cj ((r::rs).flatMap RV.An)=cj r.An++cj (rs.flatMap RV.An):=by
   rw [List.flatMap_cons,zY]
  refine ⟨fun k=>if k<j+r.An.length then l1 k else l2 k,fun k A hA => ?_,by simp [b2],fun d g=>by simp [m8,b3],fun c2 lO d g iN nk EL hg k x v' hx xh => ?_⟩
  ·rw [aaH,pG,pt] at hA
   by_cases e:k<r.An.length
   ·rw [if_pos e] at hA;have:=a1 k A hA;show ∃v,OwnAt c w _ (if j+k<_ then _ else _) A v;rw [if_pos (by omega)];exact this
   ·rw [if_neg e] at hA;have:=b1 _ A hA;rw [show j+r.An.length+(k-r.An.length)=j+k by omega] at this;show ∃v,OwnAt c w _ (if j+k<_ then _ else _) A v;rw [if_neg (by omega)];exact this
  ·rw [aaH] at EL;rw [List.flatMap_cons,List.length_append] at nk EL
   cases k with
   |zero=>
    simp only [m8,List.getElem?_cons_zero,Option.some.injEq] at hx xh;subst hx xh;refine hV c2 lO d g (a2 c2 lO d g iN (fun k hk => ?_) (fun k A hk hA => ?_) hg)
    ·have:c2.lc d (j+k)=if j+k<j+r.An.length then l1 (j+k) else l2 (j+k):=nk k (by omega)
     rwa [if_pos (by omega)] at this
    ·have:=EL k A (by omega) hA
     rwa [pG,pt,if_pos hk] at this
   |succ k=>
    refine b4 c2 lO d g iN (fun k hk => ?_) (fun k A hk hA => ?_) hg k x v' (by simpa [m8] using hx) (by simpa using xh)
    ·have:c2.lc d (j+(r.An.length+k))=if j+(r.An.length+k)<j+r.An.length then l1 (j+(r.An.length+k)) else l2 (j+(r.An.length+k)):=nk (r.An.length+k) (by omega)
     rw [if_neg (by omega)] at this;rw [Nat.add_assoc];exact this
    ·rw [Nat.add_assoc] at hA;have:=EL (r.An.length+k) A (by omega) hA
     rwa [pG,pt,if_neg (by omega),Nat.add_sub_cancel_left] at this
def yz (d:Nat):Lb→Lb
 |.kK 0=>.box d
 |.kK (j+1)=>.sp d (j+1)
 |l=>l
theorem Ci (d:Nat):FP (yz d):=⟨fun l h=>by
 cases l with
 |kK j=>cases j<;>simp [yz,Lb.real] at h ⊢
 |_=>simp [yz,Lb.real] at h ⊢⟩
theorem nv.Zl {X:Lb→Prop} {w0:World} {mu:Mu} {c:Cz} {st:St} {a:Act} {w:World} (h:nv X w0 mu c st a w) {d:Nat} {s0:Sl} {os:List OV} {v:Value} (mV:nth st d=some s0)
  (hv:∃rn us ty,v=.pointer (some ⟨rn,0,none⟩)∧c.own rn=some (.kK 0)∧w.heap[rn]?=some (.cells us ty (0,0))∧cD c w .kK 1 os us.toList) (hd:d<a.tmps.size) :
  ∃c',nv X w0 mu c' (sY (fun s=>{ s with v:=.one (.ptr d (s.bg+1) 0),box:=some (bV d (s.ag+1) 1 os),bg:=s.bg+1,bT:=none::cj os,ag:=s.ag+1 }) st d) (a.put (some d) v) w∧
   Fw c st w c' (sY (fun s=>{ s with v:=.one (.ptr d (s.bg+1) 0),box:=some (bV d (s.ag+1) 1 os),bg:=s.bg+1,bT:=none::cj os,ag:=s.ag+1 }) st d) w∧∀b l,l.real=true→c.own b=some l→c'.own b=some l:=by
 obtain ⟨rn,us,ty,rfl,ku,VA,hL⟩:=hv;obtain ⟨lcs,g1,g2⟩:=cD.cells os 1 _ hL
 let c':=c.ia (yz d) (fun s=>if s=d then rn else c.bx s) (fun s j=>if s=d then lcs j else c.lc s j)
 let bP:=sY (fun s=>{ s with v:=.one (.ptr d (s.bg+1) 0),box:=some (bV d (s.ag+1) 1 os),bg:=s.bg+1,bT:=none::cj os,ag:=s.ag+1 }) st d
 have hn:∀s,nth bP s=if s=d then some { s0 with v:=.one (.ptr d (s0.bg+1) 0),box:=some (bV d (s0.ag+1) 1 os),bg:=s0.bg+1,bT:=none::cj os,ag:=s0.ag+1 } else nth st s:=by
  intro s;show nth (sY _ st d) s=_;rw [kZ]
  by_cases e:s=d
  ·subst e;rw [if_pos rfl,if_pos rfl,mV];rfl
  ·rw [if_neg e,if_neg e]
 have Nq:gJ bP d=s0.ag+1:=by unfold gJ;rw [hn];simp
 have Nr:gJ st d=s0.ag:=by unfold gJ;rw [mV]
 have aaI:jW bP d=s0.bg+1:=by unfold jW;rw [hn];simp
 have ace:jW st d=s0.bg:=by unfold jW;rw [mV]
 have ht:=Ci d;have lN:Fw c st w c' bP w:={
  stays:=rF c w _ _ _
  refs:=fun a' j' g' A' hg iy=>by
   obtain ⟨sl,k1,k2,k3⟩:=dB iy;rw [hn] at k1
   by_cases e:a'=d
   ·rw [if_pos e] at k1
    cases k1
    subst e;simp only at k2;omega
   ·rw [if_neg e] at k1;exact ⟨A',BF k1 k2 k3,rfl,rfl,by show (if a'=d then _ else _)=_;rw [if_neg e],fun _=>⟨rfl,fun _ _ _ _=>rfl⟩⟩
  G0:=fun b' g' sj hg Pw=>by
   obtain ⟨sl,k1,k2,k3⟩:=j5 Pw;rw [hn] at k1
   by_cases e:b'=d
   ·rw [if_pos e] at k1
    cases k1
    subst e;simp only at k2;omega
   ·rw [if_neg e] at k1;exact ⟨⟨sj,by unfold fM;rw [k1];simp [k2,k3]⟩,by show (if b'=d then _ else _)=_;rw [if_neg e]⟩
  gA:=fun a'=>by
   by_cases e:a'=d
   ·subst e;rw [Nq,Nr];omega
   ·unfold gJ;rw [hn,if_neg e];exact Nat.le_refl _
  gB:=fun a'=>by
   by_cases e:a'=d
   ·subst e;rw [aaI,ace];omega
   ·unfold jW;rw [hn,if_neg e];exact Nat.le_refl _
  gE:=fun a'=>by
   by_cases e:a'=d
   ·subst e;unfold wD;rw [hn,if_pos rfl,mV];exact Nat.le_refl _
   ·unfold wD;rw [hn,if_neg e];exact Nat.le_refl _ }
 have Ns:∀k A,cE bP d (1+k) (s0.ag+1)=some A→nth (cj os) k=some (some A):=by
  intro k A hA;obtain ⟨sl,k1,k2,k3⟩:=dB hA;rw [hn,if_pos rfl] at k1
  cases k1
  rw [show 1+k=k+1 by omega] at k3;exact k3
 have xP:∀t,hU c' bP w (dI bP t) ((a.put (some d) (.pointer (some ⟨rn,0,none⟩))).eval (.tmp t)):=by
  intro t;rw [eval_put]
  by_cases e:t=d
  ·subst e;rw [if_pos ⟨rfl,hd⟩];have:dI bP t=.one (.ptr t (s0.bg+1) 0):=by unfold dI;rw [hn,if_pos rfl]
   rw [this];refine ⟨rfl,by rw [aaI];exact Nat.le_refl _,fun cs _ => ?_⟩;show _=Value.pointer (some ⟨(if t=t then rn else c.bx t),0,none⟩);rw [if_pos rfl]
  ·rw [if_neg (by rintro ⟨e2,_⟩;exact e (Option.some.inj e2).symm)];have:dI bP t=dI st t:=by unfold dI;rw [hn,if_neg e]
   rw [this];exact lN.vi (h.je t)
 refine ⟨c',⟨xP,fun s sl cs hX hs hb => ?_,fun s j sl A hX hs hA => ?_,fun b l hb => ?_,fun b hb h1=>h.free b hb (by unfold Cz.ok at *;simpa [c',Cz.ia] using h1),h.kept,h.old,by simpa [Act.put] using h.plain,fun p hp=>lN.hY (h.hY p hp)⟩,lN,fun b l hl hb => ?_⟩
 case refine_4=>
  show (c.own b).map (yz d)=_;rw [hb];simp [(Ci d).other l (.inr hl)]
 ·rw [hn] at hs
  by_cases e:s=d
  ·subst e;rw [if_pos rfl] at hs
   cases hs
   simp only [Option.some.injEq] at hb;subst hb;refine ⟨?_,us,ty,by show w.heap[if s=s then rn else c.bx s]?=_;rw [if_pos rfl];exact VA,?_⟩
   ·show (c.own (if s=s then rn else c.bx s)).map (yz s)=some (.box s);rw [if_pos rfl,ku];rfl
   ·exact g2 c' bP s (s0.ag+1) (fun b hb=>Cz.so.2 hb) (fun k _=>by show (if s=s then _ else _)=_;rw [if_pos rfl]) (fun k A _ hA=>Ns k A hA) (by rw [Nq];exact Nat.le_refl _)
  ·rw [if_neg e] at hs;exact (h.boxes s sl cs hX hs hb).ia ht lN (by show (if s=d then _ else _)=_;rw [if_neg e])
 ·rw [hn] at hs
  by_cases e:s=d
  ·subst e;rw [if_pos rfl] at hs
   cases hs
   cases j with
   |zero=>simp [nth] at hA
   |succ j=>
    obtain ⟨v',xh⟩:=g1 j A hA;rw [show 1+j=j+1 by omega] at xh;exact xh.arr (by simp) (by simp [yz])
  ·rw [if_neg e] at hs;exact (h.bT s j sl A hX hs hA).ia ht (by simp [e])
 ·simp only [c',Cz.ia,Option.map_eq_some_iff] at hb;obtain ⟨k,hk,e⟩:=hb;obtain ⟨h1,h2⟩:=h.owned b k hk;refine ⟨h1,h2.imp (fun e2 => ?_) id⟩;subst e2;rw [←e];rfl
theorem L0 {st:St} {d:Nat} {outs:List RV} (h:∀os,outs≠[.ptr os]):Aq st (some d) outs=match nth st d with
  |some s=>some (sY (fun sl=>{ sl with v:=(match m8 d (s.ag+1) 0 outs with | [v]=>v | vs=>.qd vs),bT:=cj (outs.flatMap RV.An),ag:=s.ag+1 }) st d)
  |none=>none:=by
 unfold Aq;simp only
 cases nth st d with
 |none=>rfl
 |some s=>
  cases outs with
  |nil=>rfl
  |cons r l=>cases l with
   |cons _ _=>cases r<;>rfl
   |nil=>cases r with
    |one o=>rfl
    |agg os=>rfl
    |ptr os=>exact absurd rfl (h os)
theorem nv.laid {X:Lb→Prop} {w0:World} {mu:Mu} {c:Cz} {st:St} {a:Act} {w:World} (h:nv X w0 mu c st a w) {d:Option Nat} {outs:List RV} {v:Value} (hv:vq c w outs v) {bP:St} (hl:Aq st d outs=some bP) (hd:∀k,d=some k→k<a.tmps.size) :
  ∃c',nv X w0 mu c' bP (a.put d v) w∧Fw c st w c' bP w∧∀b l,l.real=true→c.own b=some l→c'.own b=some l:=by
 cases d with
 |none=>
  cases outs with
  |nil=>
   simp only [Aq,Option.some.injEq] at hl;subst hl;exact ⟨c,h,Fw.refl c st w,fun _ _ _ h=>h⟩
  |cons _ _=>simp [Aq] at hl
 |some d=>
  by_cases hp:∃os,outs=[.ptr os]
  ·obtain ⟨os,rfl⟩:=hp;unfold Aq at hl;simp only at hl
   cases mV:nth st d with
   |none=>simp [mV] at hl
   |some s0=>
    simp only [mV,Option.some.injEq] at hl;subst hl;refine h.Zl mV ?_ (hd d rfl);rcases hv with ⟨r,h1,h2⟩ | ⟨h1,_⟩
    ·simp only [List.cons.injEq,and_true] at h1;subst h1;obtain ⟨v',l,e1,h3,_⟩:=h2;simp only [List.cons.injEq] at e1;rw [e1.1];exact h3
    ·exact absurd rfl h1
  rw [L0 (fun os e=>hp ⟨os,e⟩)] at hl
  cases mV:nth st d with
  |none=>simp [mV] at hl
  |some s0=>
   simp only [mV,Option.some.injEq] at hl;obtain ⟨vs,hR,hVV⟩:∃vs,oC c w 0 outs vs∧∀(c2:Cz) (lO:St) (g:Nat),(m8 d g 0 outs).length=vs.length→(∀(k:Nat) (x:V) (u:Value),(m8 d g 0 outs)[k]?=some x→vs[k]?=some u→Db c2 lO w x u)→
     hU c2 lO w (match m8 d g 0 outs with | [v]=>v | vs=>.qd vs) v:=by
    rcases hv with ⟨r,rfl,h2⟩ | ⟨h1,vs,rfl,h2⟩
    ·refine ⟨[v],h2,fun c2 lO g hlen Dy => ?_⟩;exact Nl (Dy 0 _ v rfl rfl)
    ·refine ⟨vs.toList,h2,fun c2 lO g hlen Dy => ?_⟩;have acf:hU c2 lO w (.qd (m8 d g 0 outs)) (.tuple vs):=⟨vs,rfl,by simpa using hlen,fun i x y hx hy=>Dy i x y hx (by simpa using hy)⟩
     split
     ·rename_i x hx;obtain ⟨_,_,_,b3,_⟩:=oC.vals outs 0 vs.toList h2;have:=b3 d g;rw [hx] at this;exact absurd this.symm h1
     ·exact acf
   obtain ⟨lcs,g1,g2,g3,g4⟩:=oC.vals outs 0 vs hR
   let c':=c.ia (Dx d) c.bx (fun s j=>if s=d then lcs j else c.lc s j)
   let V0:=(match m8 d (s0.ag+1) 0 outs with | [v]=>v | vs=>.qd vs)
   have hn:∀s,nth bP s=if s=d then some { s0 with v:=V0,bT:=cj (outs.flatMap RV.An),ag:=s0.ag+1 } else nth st s:=by
    intro s;rw [←hl,kZ]
    by_cases e:s=d
    ·subst e;rw [if_pos rfl,if_pos rfl,mV];rfl
    ·rw [if_neg e,if_neg e]
   have Nq:gJ bP d=s0.ag+1:=by unfold gJ;rw [hn];simp
   have Nr:gJ st d=s0.ag:=by unfold gJ;rw [mV]
   have ht:=Ch d;have lN:Fw c st w c' bP w:={
    stays:=rF c w _ _ _
    refs:=fun a' j' g' A' hg iy=>by
     obtain ⟨sl,k1,k2,k3⟩:=dB iy;rw [hn] at k1
     by_cases e:a'=d
     ·rw [if_pos e] at k1
      cases k1
      subst e;simp only at k2;omega
     ·rw [if_neg e] at k1;exact ⟨A',BF k1 k2 k3,rfl,rfl,by show (if a'=d then _ else _)=_;rw [if_neg e],fun _=>⟨rfl,fun _ _ _ _=>rfl⟩⟩
    G0:=fun b' g' sj hg Pw=>by
     obtain ⟨sl,k1,k2,k3⟩:=j5 Pw;rw [hn] at k1
     by_cases e:b'=d
     ·rw [if_pos e] at k1
      cases k1
      subst e;exact ⟨⟨sj,by unfold fM;rw [mV];simp at k2 k3;simp [k2,k3]⟩,rfl⟩
     ·rw [if_neg e] at k1;exact ⟨⟨sj,by unfold fM;rw [k1];simp [k2,k3]⟩,rfl⟩
    gA:=fun a'=>by
     by_cases e:a'=d
     ·subst e;rw [Nq,Nr];omega
     ·unfold gJ;rw [hn,if_neg e];exact Nat.le_refl _
    gB:=fun a'=>by
     by_cases e:a'=d
     ·subst e;unfold jW;rw [hn,if_pos rfl,mV];exact Nat.le_refl _
     ·unfold jW;rw [hn,if_neg e];exact Nat.le_refl _
    gE:=fun a'=>by
     by_cases e:a'=d
     ·subst e;unfold wD;rw [hn,if_pos rfl,mV];exact Nat.le_refl _
     ·unfold wD;rw [hn,if_neg e];exact Nat.le_refl _ }
   have Ns:∀k A,cE bP d k (s0.ag+1)=some A→nth (cj (outs.flatMap RV.An)) k=some (some A):=by
    intro k A hA;obtain ⟨sl,k1,k2,k3⟩:=dB hA;rw [hn,if_pos rfl] at k1
    cases k1
    exact k3
   have xP:∀t,hU c' bP w (dI bP t) ((a.put (some d) v).eval (.tmp t)):=by
    intro t;rw [eval_put]
    by_cases e:t=d
    ·subst e;rw [if_pos ⟨rfl,hd t rfl⟩];have:dI bP t=V0:=by unfold dI;rw [hn,if_pos rfl]
     rw [this];refine hVV c' bP (s0.ag+1) (by rw [g3,g2]) (g4 c' bP t (s0.ag+1) (fun b hb=>Cz.so.2 hb) (fun k _ => ?_) (fun k A _ hA=>Ns k A (by simpa using hA)) (by rw [Nq];exact Nat.le_refl _));show (if t=t then _ else _)=_;rw [if_pos rfl]
    ·rw [if_neg (by rintro ⟨e2,_⟩;exact e (Option.some.inj e2).symm)];have:dI bP t=dI st t:=by unfold dI;rw [hn,if_neg e]
     rw [this];exact lN.vi (h.je t)
   refine ⟨c',⟨xP,fun s sl cs hX hs hb => ?_,fun s j sl A hX hs hA => ?_,fun b l hb => ?_,fun b hb h1=>h.free b hb (by unfold Cz.ok at *;simpa [c',Cz.ia] using h1),h.kept,h.old,by simpa [Act.put] using h.plain,fun p hp=>lN.hY (h.hY p hp)⟩,lN,fun b l hl hb => ?_⟩
   case refine_4=>
    show (c.own b).map (Dx d)=_;rw [hb];simp [(Ch d).other l (.inr hl)]
   ·rw [hn] at hs
    by_cases e:s=d
    ·subst e;rw [if_pos rfl] at hs
     cases hs
     exact (h.boxes s s0 cs hX mV hb).ia ht lN rfl
    ·rw [if_neg e] at hs;exact (h.boxes s sl cs hX hs hb).ia ht lN rfl
   ·rw [hn] at hs
    by_cases e:s=d
    ·subst e;rw [if_pos rfl] at hs
     cases hs
     obtain ⟨v',xh⟩:=g1 j A hA;exact xh.arr (by simp) (by simp [Dx])
    ·rw [if_neg e] at hs;exact (h.bT s j sl A hX hs hA).ia ht (by simp [e])
   ·simp only [c',Cz.ia,Option.map_eq_some_iff] at hb;obtain ⟨k,hk,e⟩:=hb;obtain ⟨h1,h2⟩:=h.owned b k hk;refine ⟨h1,h2.imp (fun e2 => ?_) id⟩;subst e2;rw [←e];rfl
end Go.TM
namespace Go.TM
open Go Go.RowKit
theorem Ke {st:St} {own:Bool}:(cs:List CV)→{os:List OV}→{u:List (Option Lb)}→{r:List (Nat×Nat)}→js st own cs=some (os,u,r)→∀l∈dJ u,l∈cs.filterMap fun x=>match x with | .ref a j _ _=>some (Lb.sp a j) | _=>none
 | [],_,_,_,h=>by
  simp only [js,Option.some.injEq,Prod.mk.injEq] at h;obtain ⟨_,rfl,_⟩:=h;simp [dJ]
 |x::cs,os,u,r,h=>by
  unfold js at h
  cases hc:ld st own x with
  |none=>simp [hc] at h
  |some p=>
   obtain ⟨o,u1,r1⟩:=p
   cases hq:js st own cs with
   |none=>simp [hc,hq] at h
   |some q=>
    obtain ⟨EF,us,rs⟩:=q;simp only [hc,hq,Option.some.injEq,Prod.mk.injEq] at h;obtain ⟨_,rfl,_⟩:=h;intro l hl;rw [lj] at hl;rcases List.mem_cons.1 hl with hl | hl
    ·refine List.mem_filterMap.2 ⟨x,List.mem_cons_self,?_⟩
     cases x with
     |ref a j g w=>
      unfold ld at hc;simp only at hc
      cases hA:cE st a j g with
      |none=>simp [hA] at hc
      |some A=>
       simp only [hA] at hc
       cases hm:A.md.Si with
       |true=>simp [hm] at hc
       |false=>
       simp only [hm,cond_false] at hc
       cases hb:(own&&A.own&&(A.md.is .sh||w.isFull))<;>simp only [hb,cond_true,cond_false,Option.some.injEq,Prod.mk.injEq] at hc<;>obtain ⟨_,rfl,_⟩:=hc
       ·cases hl
       ·exact hl.symm
     |oZ q y off=>obtain ⟨_,rfl,_⟩:=Ds hc;cases hl
     |xJ q y off=>obtain ⟨_,rfl,_⟩:=BC hc;cases hl
     |_=>
      simp only [ld,Option.some.injEq,Prod.mk.injEq,reduceCtorEq] at hc
      all_goals (obtain ⟨_,rfl,_⟩:=hc;cases hl)
    ·have:=Ke cs hq l (lj.2 hl);obtain ⟨y,h1,h2⟩:=List.mem_filterMap.1 this;exact List.mem_filterMap.2 ⟨y,List.mem_cons_of_mem _ h1,h2⟩
theorem PH {st:St} {m:Pm} {v:V} {av:AV} {u q:List Lb} {r:List (Nat×Nat)} (h:jE st m v=some (av,u,q,r)):∀l∈u,(l∈q∧∃s j,l=.sp s j)∨l∈EN m v:=by
 have single:∀own cs,(match js st own cs with | some (os,u,r)=>some (AV.val false os,dJ u,dJ u,r) | none=>none)=some (av,u,q,r)→∀l∈u,(l∈q∧∃s j,l=.sp s j)∨l∈EN m v:=by
  intro own cs h
  cases hq:js st own cs with
  |none=>simp [hq] at h
  |some p=>
   obtain ⟨os,us,rs⟩:=p;simp only [hq,Option.some.injEq,Prod.mk.injEq] at h;obtain ⟨_,rfl,rfl,_⟩:=h;exact fun l hl=>.inl ⟨hl,BE cs hq l hl⟩
 cases v with
 |qd _=>simp [jE] at h
 |agg cs=>
  have other:(match js st m.rj cs with | some (os,u,r)=>some (AV.val true os,dJ u,dJ u,r) | none=>none)=some (av,u,q,r)→∀l∈u,(l∈q∧∃s j,l=.sp s j)∨l∈EN m (.agg cs):=by
   intro h
   cases hq:js st m.rj cs with
   |none=>simp [hq] at h
   |some p=>
    obtain ⟨os,us,rs⟩:=p;simp only [hq,Option.some.injEq,Prod.mk.injEq] at h;obtain ⟨_,rfl,rfl,_⟩:=h;exact fun l hl=>.inl ⟨hl,BE cs hq l hl⟩
  unfold jE at h
  cases m with
  |shr=>exact other h
  |own=>exact other h
  |pick _=>exact other h
  |io=>exact other h
  |dR=>
   simp only at h
   cases hq:js st true cs with
   |none=>simp [hq] at h
   |some p=>
    obtain ⟨os,us,rs⟩:=p;simp only [hq] at h;obtain ⟨_,h1⟩:=bI h;simp only [Option.some.injEq,Prod.mk.injEq] at h1;obtain ⟨_,rfl,_,_⟩:=h1;exact fun l hl=>.inr (Ke cs hq l hl)
 |one cx=>
  cases cx with
  |ptr b g off=>
   unfold jE at h;simp only at h
   cases hb:fM st b g with
   |none=>simp [hb] at h
   |some cs=>
    simp only [hb] at h
    cases hq:js st true cs with
    |none=>simp [hq] at h
    |some p=>
     obtain ⟨os,us,rs⟩:=p;simp only [hq] at h;obtain ⟨_,h1⟩:=bI h;simp only [Option.some.injEq,Prod.mk.injEq] at h1;obtain ⟨_,rfl,rfl,_⟩:=h1;intro l hl;rcases List.mem_cons.1 hl with rfl | hl
     ·exact .inr (by simp [EN])
     ·exact .inl ⟨hl,BE cs hq l hl⟩
  |ref s j g vw=>
   unfold jE at h
   cases m with
   |shr=>exact single _ _ h
   |own=>exact single _ _ h
   |pick _=>exact single _ _ h
   |dR=>exact single _ _ h
   |io=>
    cases vw with
    |full=>
     cases hA:cE st s j g with
     |none=>simp [hA] at h
     |some A=>
      simp only [hA] at h;obtain ⟨_,h1⟩:=bI h;simp only [Option.some.injEq,Prod.mk.injEq] at h1;obtain ⟨_,rfl,_,_⟩:=h1;exact fun l hl=>.inr (by simpa [EN] using hl)
    |«from» _=>simp at h
    |sub _ _=>simp at h
  |_=>
   unfold jE at h;simp only at h
   split at h
   ·rename_i os us rs hq;simp only [Option.some.injEq,Prod.mk.injEq] at h;obtain ⟨_,rfl,rfl,_⟩:=h;exact fun l hl=>.inl ⟨hl,BE _ hq l hl⟩
   ·cases h
theorem Hu {st:St}:(ms:List (Pm×V))→{fS:List AV}→{u q:List Lb}→{r:List (Nat×Nat)}→oM st ms=some (fS,u,q,r)→∀l∈u,(l∈q∧∃s j,l=.sp s j)∨∃m∈ms,l∈EN m.1 m.2
 | [],_,_,_,_,h=>by
  simp only [oM,Option.some.injEq,Prod.mk.injEq] at h;obtain ⟨_,rfl,_⟩:=h;simp
 |(m,v)::ms,fS,u,q,r,h=>by
  unfold oM at h
  cases h1:jE st m v with
  |none=>simp [h1] at h
  |some p1=>
   obtain ⟨av,u1,q1,r1⟩:=p1
   cases h2:oM st ms with
   |none=>simp [h1,h2] at h
   |some p2=>
    obtain ⟨aca,u2,q2,r2⟩:=p2;simp only [h1,h2,Option.some.injEq,Prod.mk.injEq] at h;obtain ⟨rfl,rfl,rfl,rfl⟩:=h;intro l hl;rcases List.mem_append.1 hl with hl | hl
    ·rcases PH h1 l hl with ⟨h3,h4⟩ | h3
     ·exact .inl ⟨List.mem_append_left _ h3,h4⟩
     ·exact .inr ⟨(m,v),List.mem_cons_self,h3⟩
    ·rcases Hu ms h2 l hl with ⟨h3,h4⟩ | ⟨m',h3,h4⟩
     ·exact .inl ⟨List.mem_append_right _ h3,h4⟩
     ·exact .inr ⟨m',List.mem_cons_of_mem _ h3,h4⟩
theorem FR {st:St}:(ms:List (Pm×V))→{fS:List AV}→{u q:List Lb}→{r:List (Nat×Nat)}→oM st ms=some (fS,u,q,r)→∀(k:Nat) (m:Pm×V) (av:AV),ms[k]?=some m→fS[k]?=some av→Vy st m av
 | [],_,_,_,_,_=>by intro k m av hm;simp at hm
 |(m,v)::ms,fS,u,q,r,h=>by
  unfold oM at h
  cases h1:jE st m v with
  |none=>simp [h1] at h
  |some p1=>
   obtain ⟨av,u1,q1,r1⟩:=p1
   cases h2:oM st ms with
   |none=>simp [h1,h2] at h
   |some p2=>
    obtain ⟨aca,u2,q2,r2⟩:=p2;simp only [h1,h2,Option.some.injEq,Prod.mk.injEq] at h;obtain ⟨rfl,rfl,rfl,rfl⟩:=h;intro k m' Rv hm Ny
    cases k with
    |zero=>simp at hm Ny;subst hm Ny;exact ⟨u1,q1,r1,h1⟩
    |succ k=>exact FR ms h2 k m' Rv (by simpa using hm) (by simpa using Ny)
theorem SN (a b c:Pm) (l:List V):(C9 a b c l).map (·.2)=l:=by
 rcases l with _ | ⟨x,_ | ⟨y,_ | ⟨z,l⟩⟩⟩<;>simp [C9,Function.comp_def]
theorem Cz.Cq:(m:List (Nat×Nat))→(c:Cz)→{b:Nat}→{l:Lb}→c.own b=some l→(∀p∈m,l≠.sp p.1 p.2)→(c.drop m).own b=some l
 | [],_,_,_,h,_=>h
 |(s,j)::m,c,b,l,h,hm=>Cz.Cq m (c.drop1 s j) (Cz.vk h (hm (s,j) List.mem_cons_self)) (fun p hp=>hm p (List.mem_cons_of_mem _ hp))
def oO (P:Program) (S:mS):Prop:=
 ∀f a b c Gu,S f=some (a,b,c,Gu)→FnOk P f Gu∧∃fn,P.funcs[f]?=some fn∧(fn.name == "runtime.NumGoroutine")=false∧fn.body.isNone=false
theorem VB {P:Program} {w0:World} {mu:Mu} {c:Cz} {st bP:St} {a:Act} {w:World} (h:Rel w0 mu c st a w) {o:Oper} {f:FuncId} {vals:Array Value} (vm:(execOp a.eval o).run P w=.ok (.enter f vals) w)
  {Gu:Ap} (UO:FnOk P f Gu) {ms:List (Pm×V)}
  (hlen:ms.length=vals.toList.length) (Dy:∀(k:Nat) (m:Pm×V) (x:Value),ms[k]?=some m→vals.toList[k]?=some x→hU c st w m.2 x)
  {fin:St→N} (hv:(U9 st o.dst Gu ms fin).val=some bP) (hd:∀k,o.dst=some k→k<a.tmps.size) {kp:Bool} (Zi:kp=true→Pu st ms=true)
  (Zm:∀(c5:Cz) (lO:St) (a2:Act) (w':World),Rel w0 mu c5 lO a2 w'→Fw c st w c5 lO w'→
   (∀fS u q r,oM st ms=some (fS,u,q,r)→∀b l,l.real=true→l∉u→(∀p∈r,l≠.sp p.1 p.2)→c.own b=some l→w'.heap[b]?=w.heap[b]?∧c5.own b=some l)→
   (fin lO).val=some bP→∃c6,Rel w0 mu c6 bP a2 w'):Cf P w0 mu bP o a w kp:=by
  unfold U9 at hv;unfold Pu at Zi
  cases he:oM st ms with
  |none=>simp [he,N.val] at hv
  |some p=>
   obtain ⟨fS,u,q,r⟩:=p;simp only [he] at hv Zi;obtain ⟨hc,hv⟩:=jt hv;rw [Bool.and_eq_true] at hc
   cases hs:Gu fS with
   |none=>simp [hs,N.val] at hv
   |some p=>
    simp only [hs] at hv
    cases hox:p.o with
    |none=>rw [hox] at hv;cases hv
    |some x=>
    rw [hox] at hv;have Ph:=hv;clear hv;unfold N.val at Ph;simp only at Ph;generalize LU:p.res x=res at Ph
    cases hbk:yp (sk (tX u 0 (bif res.plain then st else freeze st r)) q) ms res.exts with
    |none=>simp [hbk,N.val] at Ph
    |some G7=>
     simp only [hbk] at Ph
     cases hly:Aq G7 o.dst res.outs with
     |none=>simp [hly,N.val] at Ph
     |some lO=>
      simp only [hly] at Ph;have Ph:(fin lO).val=some bP:=Ph;obtain ⟨FT,hqu,tb,VC,aiy,SO,hold⟩:=J9 h ms 0 _ hlen Dy he;have hnd:=sn u FT hc.1;have hap:∀p∈r,Lb.sp p.1 p.2∉u:=by
       intro p hp hm;have h1:=List.all_eq_true.1 hc.2 p hp;have h2:=List.all_eq_true.1 h1 _ hm;rw [(Lb.Dt rfl).2 rfl] at h2
       cases h2
      let lc:Nat→Nat→Loc:=fun k=>match ms[k]? with | some m=>FO c m.2 | none=>fun _=>.nil
      have Az:=Classical.propDecidable
      let ρ:Lb→Option Lb:=fun l=>match look tb l with | some y=>some y | none=>if (∃p∈r,l=.sp p.1 p.2) then none else some .out
      have Dz:∀ {l y},look tb l=some y→l∈u∧y.nu=true:=by
       intro l y hl;have:=BD tb hl;exact ⟨by rw [←VC];exact List.mem_map.2 ⟨_,this,rfl⟩,aiy _ this⟩
      have hρr:∀p∈r,ρ (.sp p.1 p.2)=none:=by
       intro p hp;show (match look tb (.sp p.1 p.2) with | some y=>some y | none=>if (∃p'∈r,Lb.sp p.1 p.2=.sp p'.1 p'.2) then none else some .out)=none
       cases hl:look tb (.sp p.1 p.2) with
       |some y=>exact absurd (Dz hl).1 (hap p hp)
       |none=>simp only;rw [if_pos ⟨p,hp,rfl⟩]
      have hρt:∀p∈tb,ρ p.1=some p.2:=by
       intro p hp;have:=Du tb (by rw [VC];exact hnd) hp;show (match look tb p.1 with | some y=>some y | none=>_)=_;rw [this]
      have hρh:∀ {l y},ρ l=some y→y=.out∨(y.nu=true∧l∈u):=by
       intro l y hl;have hl:(match look tb l with | some y=>some y | none=>if (∃p∈r,l=.sp p.1 p.2) then none else some .out)=some y:=hl
       cases hk:look tb l with
       |some z=>
        rw [hk] at hl
        cases hl
        exact .inr ⟨(Dz hk).2,(Dz hk).1⟩
       |none=>
        rw [hk] at hl;simp only at hl
        split at hl
        ·cases hl
        ·cases hl;exact .inl rfl
      have hρn:∀ {l},ρ l=none→∃p∈r,l=.sp p.1 p.2:=by
       intro l hl;have hl:(match look tb l with | some y=>some y | none=>if (∃p∈r,l=.sp p.1 p.2) then none else some .out)=none:=hl
       cases hk:look tb l with
       |some z=>rw [hk] at hl;cases hl
       |none=>
        rw [hk] at hl;simp only at hl
        split at hl
        ·assumption
        ·cases hl
      let μ:Mu:={ m:=fun b=>∃l,(c.map ρ).own b=some l∧l.nu=true,ok:=fun b=>(c.map ρ).own b=none,an:=[] }
      have hH:Handed (c.map ρ) w μ:={
       m:=fun b=>Iff.rfl
       ok:=fun b=>Iff.rfl
       lt:=fun b l hb=>by
        obtain ⟨k,hk,_⟩:=Cz.map_some hb;exact (h.owned b k hk).1
       lb:=fun b l hb=>by
        obtain ⟨k,hk,e⟩:=Cz.map_some hb;exact (hρh e).imp id (·.1) }
      have hA:=hold ρ lc (fun k m hm=>by simp only [Nat.zero_add,lc,hm]) hρt hρr;have pa:=UO (c.map ρ) w μ lc fS vals p x hH hA hs hox;rw [LU] at pa;intro Q;unfold Oper.wp;rw [vm,Oper.upon_enter];refine pa.mono fun e w' Hv => ?_
      obtain ⟨v,rfl,c1,EO,hV,hX⟩:=Hv;obtain ⟨c2,s2,Su,hR2,hF2,hm2,anM,anN⟩:∃(c2:Cz) (s2:St),(bif res.plain then st else freeze st r)=s2∧Rel w0 mu c2 s2 a w∧Fw c st w c2 s2 w∧(∀b,μ.m b→∃l,c2.own b=some l∧l∈u)∧(res.plain=true∨∀b,μ.ok b→c2.own b=none)∧
        (∀b l,(∀p∈r,l≠.sp p.1 p.2)→c.own b=some l→c2.own b=some l):=by
       have hm:∀b,μ.m b→∃l,c.own b=some l∧l∈u:=by
        rintro b ⟨l,hl,hh⟩
        obtain ⟨k,hk,e⟩:=Cz.map_some hl;rcases hρh e with e2 | e2
        ·subst e2;cases hh
        ·exact ⟨k,hk,e2.2⟩
       cases hp:res.plain with
       |true=>exact ⟨c,st,rfl,h,Fw.refl c st w,hm,.inl rfl,fun _ _ _ h=>h⟩
       |false=>
        refine ⟨c.drop r,freeze st r,rfl,Rel.freeze r h,Fw.freeze w r c st,fun b hb => ?_,.inr fun b hb => ?_,fun b l hl hb=>Cz.Cq r c hb hl⟩
        ·obtain ⟨l,h1,h2⟩:=hm b hb;exact ⟨l,Cz.Cq r c h1 (fun p hp e=>hap p hp (e▸h2)),h2⟩
        ·have hb:(c.own b).bind ρ=none:=hb
         cases hk:c.own b with
         |none=>exact Cz.Dd r c b hk
         |some l=>
          rw [hk] at hb;obtain ⟨p,hp,e⟩:=hρn hb;subst e;exact Cz.GO r c b hk hp
      rw [Su] at hbk;obtain ⟨g1,g2,gfr,g3,g4⟩:=hR2.ait EO (X:=fun l=>l∈u) hm2 (fun l hl e=>by subst e;cases FT _ hl) (u:=u) (fun a j h=>SJ h);have PI:(∀b,c1.ok b→(c2.merge c1 w.heap.size μ.m).ok b)∨res.plain=true:=by
       rcases anM with h1 | h1
       ·exact .inr h1
       ·exact .inl (g4 h1)
      have VD:res.plain=true→res.outs.all (fun o=>o.An.all OV.plain)=true∧res.exts.all XV.plain=true:=by
       intro hp;unfold Res.plain at hp
       rwa [Bool.and_eq_true] at hp
      have hV':vq (c2.merge c1 w.heap.size μ.m) w' res.outs v:=hV.pass (fun b j=>g3 b (.kK j) rfl) (PI.imp id fun hp=>(VD hp).1);have SI:kx (c2.merge c1 w.heap.size μ.m) w' lc 0 fS vals.toList res.exts:=kx.pass fS 0 (fun b k _=>g3 b (.xK k) rfl) (fun b k j _=>g3 b (.dC k j) rfl) _ _ (PI.imp id fun hp=>(VD hp).2) hX;obtain ⟨c3,k1,k2,k3⟩:=Cp q g1;have aiz:∀b,(c2.merge c1 w.heap.size μ.m).ok b→c3.ok b:=fun b hb=>by unfold Cz.ok at *;rw [k3];exact hb
      have hV3:vq c3 w' res.outs v:=hV'.pass (fun b j hb=>by rw [k3];exact hb) (.inl aiz);have hX3:kx c3 w' lc 0 fS vals.toList res.exts:=kx.pass fS 0 (fun b k _ hb=>by rw [k3];exact hb) (fun b k j _ hb=>by rw [k3];exact hb) _ _ (.inl aiz) SI;obtain ⟨c4,l1,l2,l3⟩:=Ht ms 0 fS _ _ k1 ((hF2.trans g2).trans k2) Dy (FR ms he) SO.symm hlen (fun k m hm=>by simp only [Nat.zero_add,lc,hm]) hX3 hbk;have hV4:vq c4 w' res.outs v:=hV3.pass (fun b j=>l3.dC b (.kK j) (.inl ⟨j,rfl⟩)) (.inl l3.ok);obtain ⟨c5,n1,n2,n3⟩:=l1.laid hV4 hly hd;have aiA:Rel w0 mu c5 lO (a.put o.dst v) w':=by
       refine (n1.mono (X':=fun _=>False) (fun l hl => ?_)).rel;obtain ⟨⟨SD,hl2⟩,hl3⟩:=hl;rcases Hu ms he l SD with ⟨h1,s,j,e⟩ | ⟨m,h1,h2⟩
       ·subst e;exact hl2 s j h1 rfl
       ·exact hl3 m h1 h2
      obtain ⟨c6,hc6⟩:=Zm c5 lO _ w' aiA (l2.trans n2) (fun aca u' q' r' he' b l SD hl2 hl3 hb=>by
       rw [he] at he';simp only [Option.some.injEq,Prod.mk.injEq] at he';obtain ⟨rfl,rfl,rfl,rfl⟩:=he';have M4:=anN b l hl3 hb;obtain ⟨f1,f2⟩:=gfr b l M4 hl2;refine ⟨f1,n3 b l SD (l3.dC b l (.inr SD) ?_)⟩;rw [k3,f2];exact M4) Ph
      refine ⟨⟨c6,hc6,vo _ _ _⟩,fun anP=>⟨EO.kept.2.2.2,fun k hk=>EO.old k hk (fun hmu => ?_)⟩⟩;have hu0:u=[]:=by simpa using Zi anP
      obtain ⟨_,_,Gx⟩:=hm2 k hmu;rw [hu0] at Gx
      cases Gx
end Go.TM
namespace Go.TM
open Go Go.RowKit
end Go.TM
namespace Go.TM
open Go Go.RowKit
end Go.TM
namespace Go.TM
open Go Go.RowKit
theorem Rel.clear {w0:World} {mu:Mu} {c:Cz} {st:St} {a:Act} {w:World} (h:Rel w0 mu c st a w) (P:Nat):Rel w0 mu c (sY (fun s=>{ s with bT:=[],ep:=s.ep+1 }) st P) a w∧Fw c st w c (sY (fun s=>{ s with bT:=[],ep:=s.ep+1 }) st P) w:=by
 have hn:∀s,nth (sY (fun s=>{ s with bT:=[],ep:=s.ep+1 }) st P) s=if s=P then (nth st s).map (fun z=>{ z with bT:=[],ep:=z.ep+1 }) else nth st s:=fun s=>kZ _ _ _ _
 generalize sY (fun s=>{ s with bT:=[],ep:=s.ep+1 }) st P=bP at hn ⊢;have lN:Fw c st w c bP w:={
  stays:=lf.refl w _
  refs:=fun a' j' g' A' _ iy=>by
   obtain ⟨sl,k1,k2,k3⟩:=dB iy;rw [hn] at k1
   by_cases e:a'=P
   ·rw [if_pos e] at k1;obtain ⟨z,hz,rfl⟩:=Option.map_eq_some_iff.1 k1;simp [nth] at k3
   ·rw [if_neg e] at k1;exact ⟨A',BF k1 k2 k3,rfl,rfl,rfl,fun _=>⟨rfl,fun _ _ _ _=>rfl⟩⟩
  G0:=fun b' g' sj _ uf=>by
   refine ⟨⟨sj,?_⟩,rfl⟩;unfold fM at uf ⊢;rw [hn] at uf
   by_cases e:b'=P
   ·rw [if_pos e] at uf
    cases hz:nth st b' with
    |none=>rw [hz] at uf;cases uf
    |some z=>rw [hz] at uf;exact uf
   ·rw [if_neg e] at uf;exact uf
  gA:=fun s=>by
   unfold gJ;rw [hn]
   by_cases e:s=P
   ·rw [if_pos e];cases nth st s<;>simp
   ·rw [if_neg e];exact Nat.le_refl _
  gB:=fun s=>by
   unfold jW;rw [hn]
   by_cases e:s=P
   ·rw [if_pos e];cases nth st s<;>simp
   ·rw [if_neg e];exact Nat.le_refl _
  gE:=fun s=>by
   unfold wD;rw [hn]
   by_cases e:s=P
   ·rw [if_pos e];cases nth st s<;>simp
   ·rw [if_neg e];exact Nat.le_refl _ }
 refine ⟨{
  je:=fun t=>by
   have:dI bP t=dI st t:=by
    unfold dI;rw [hn]
    by_cases e:t=P
    ·rw [if_pos e];cases nth st t<;>rfl
    ·rw [if_neg e]
   rw [this];exact lN.vi (h.je t)
  boxes:=fun s sl cs hs hb=>by
   rw [hn] at hs
   by_cases e:s=P
   ·rw [if_pos e] at hs;obtain ⟨z,hz,rfl⟩:=Option.map_eq_some_iff.1 hs;exact (h.boxes s z cs hz hb).go lN rfl rfl rfl
   ·rw [if_neg e] at hs;exact (h.boxes s sl cs hs hb).go lN rfl rfl rfl
  bT:=fun s j sl A hs hA=>by
   rw [hn] at hs
   by_cases e:s=P
   ·rw [if_pos e] at hs;obtain ⟨z,hz,rfl⟩:=Option.map_eq_some_iff.1 hs;simp [nth] at hA
   ·rw [if_neg e] at hs;exact h.bT s j sl A hs hA
  owned:=h.owned
  free:=h.free
  kept:=h.kept
  old:=h.old
  plain:=h.plain
  hY:=fun p hp=>lN.hY (h.hY p hp) },lN⟩
theorem Rw {α β:Type} (f:α→β):(l:List α)→(n:Nat)→nth (l.map f) n=(nth l n).map f
 | [],_=>rfl
 |_::_,0=>rfl
 |_::l,n+1=>Rw f l n
theorem sJ (st:St) (s:Nat):nth (yq st) s=(nth st s).map (aaB st):=Rw _ _ _
theorem Kf (st:St) (a j g:Nat):cE (yq st) a j g=cE st a j g:=by
 unfold cE;rw [sJ]
 cases nth st a<;>rfl
theorem Kg (st:St) (a:Nat):gJ (yq st) a=gJ st a:=by
 unfold gJ;rw [sJ]
 cases nth st a<;>rfl
theorem Kh (st:St) (a:Nat):jW (yq st) a=jW st a:=by
 unfold jW;rw [sJ]
 cases nth st a<;>rfl
theorem VE (st:St) (a:Nat):wD (yq st) a=wD st a:=by
 unfold wD;rw [sJ]
 cases nth st a<;>rfl
theorem Ki (st:St) (b g:Nat):fM (yq st) b g=(fM st b g).map fun cs=>cs.map (FH st):=by
 unfold fM;rw [sJ]
 cases nth st b with
 |none=>rfl
 |some x=>
  show (bif Nat.beq x.bg g then x.box.map _ else none)=_;simp only
  cases Nat.beq x.bg g<;>rfl
theorem Fw.yq (c:Cz) (st:St) (w:World):Fw c st w c (yq st) w where
 stays:=lf.refl w _
 refs a j g A' _ iy:=by
  rw [Kf] at iy;exact ⟨A',iy,rfl,rfl,rfl,fun _=>⟨rfl,fun _ _ _ _=>rfl⟩⟩
 G0 b g sj _ h:=by
  rw [Ki] at h;obtain ⟨cs,h1,_⟩:=Option.map_eq_some_iff.1 h;exact ⟨⟨cs,h1⟩,rfl⟩
 gA a:=by rw [Kg];exact Nat.le_refl _
 gB a:=by rw [Kh];exact Nat.le_refl _
 gE a:=by rw [VE];exact Nat.le_refl _
theorem Nz {w0:World} {mu:Mu} {c:Cz} {st:St} {a:Act} {w:World} (h:Rel w0 mu c st a w) {x:CV} {v:Value} (hr:qi c st w x v):qi c st w (FH st x) v:=by
 unfold FH
 split
 ·split
  ·rename_i A hA
   cases ho:A.own with
   |true=>exact hr
   |false=>
    cases hm:A.md.is .sh with
    |false=>exact hr
    |true=>
     have hm:=Md.xe.1 hm;exact Dc (h.JZ hA) (hr.2.2 A hA) (ok:=c.ok) (fun b h=>h) (fun b q=>by
      rcases q with q | q
      ·rw [ho] at q;cases q
      ·rw [hm] at q;cases q) (by rw [hm];rfl)
  ·exact hr
 ·exact hr
theorem NA {w0:World} {mu:Mu} {c:Cz} {st:St} {a:Act} {w:World} (h:Rel w0 mu c st a w) {cs:List CV} {vs:List Value} (hr:iO c st w cs vs):iO c (yq st) w (cs.map (FH st)) vs:=by
 refine ⟨by rw [List.length_map];exact hr.1,fun i x v h1 h2 => ?_⟩;rw [List.getElem?_map] at h1;obtain ⟨y,hy,rfl⟩:=Option.map_eq_some_iff.1 h1;exact (Fw.yq c st w).Y6 (Nz h (hr.2 i y v hy h2))
theorem VF {w0:World} {mu:Mu} {c:Cz} {st:St} {a:Act} {w:World} (h:Rel w0 mu c st a w) {x:V} {v:Value} (hr:hU c st w x v):hU c (yq st) w (Va st x) v:=by
 cases x with
 |one x=>exact (Fw.yq c st w).Y6 (Nz h hr)
 |agg cs=>
  obtain ⟨vs,h1,h2⟩:=hr;exact ⟨vs,h1,NA h h2⟩
 |qd us=>exact (Fw.yq c st w).vi hr
theorem Rel.yq {w0:World} {mu:Mu} {c:Cz} {st:St} {a:Act} {w:World} (h:Rel w0 mu c st a w):Rel w0 mu c (yq st) a w where
 je t:=by
  have e:dI (Go.TM.yq st) t=Va st (dI st t):=by
   unfold dI;rw [sJ]
   cases nth st t<;>rfl
  rw [e];exact VF h (h.je t)
 boxes s sl cs hs hb:=by
  rw [sJ] at hs;obtain ⟨x,hx,rfl⟩:=Option.map_eq_some_iff.1 hs;have hb:x.box.map (fun cs=>cs.map (FH st))=some cs:=hb;obtain ⟨UL,hc,rfl⟩:=Option.map_eq_some_iff.1 hb;obtain ⟨k1,vs,ty,k2,k3⟩:=h.boxes s x UL hx hc;exact ⟨k1,vs,ty,k2,NA h k3⟩
 bT s j sl A hs hb:=by
  rw [sJ] at hs;obtain ⟨x,hx,rfl⟩:=Option.map_eq_some_iff.1 hs;exact h.bT s j x A hx hb
 owned:=h.owned
 free:=h.free
 kept:=h.kept
 old:=h.old
 plain:=h.plain
 hY p hp:=by
  have h0:=h.hY p hp
  cases p with
  |arr a j g W n l=>
   refine ⟨by rw [Kg];exact h0.1,fun A hA => ?_⟩;rw [Kf] at hA;exact h0.2 A hA
  |box b g rn=>
   refine ⟨by rw [Kh];exact h0.1,fun cs Ao => ?_⟩;rw [Ki] at Ao;obtain ⟨UL,hc,_⟩:=Option.map_eq_some_iff.1 Ao;exact h0.2 UL hc
theorem NB {w0:World} {mu:Mu} {c:Cz} {st:St} {a:Act} {w:World} (ms:List (Pm×V)) (h:Rel w0 mu c st a w):Rel w0 mu c (GZ ms st) a w∧∀x v,hU c st w x v→hU c (GZ ms st) w x v:=by
 unfold GZ
 cases ms.any (fun m=>m.1.Vb)
 ·exact ⟨h,fun _ _ hr=>hr⟩
 ·exact ⟨h.yq,fun _ _ hr=>(Fw.yq c st w).vi hr⟩
theorem NC {P:Program} {S:mS} (hS:oO P S) {w0:World} {mu:Mu} {c:Cz} {st bP:St} {a:Act} {w:World} (h:Rel w0 mu c st a w) {o:Oper} {f:FuncId} {vals:Array Value} {xs:List V}
  (vm:∀fn,P.funcs[f]?=some fn→fn.name ≠ "runtime.NumGoroutine" → fn.body≠none→(execOp a.eval o).run P w=.ok (.enter f vals) w)
  (aaC:xs.length=vals.toList.length) (aiB:∀(k:Nat) (m:V) (x:Value),xs[k]?=some m→vals.toList[k]?=some x→hU c st w m x)
  (hv:(JX S st o.dst f xs).val=some bP) (hd:∀k,o.dst=some k→k<a.tmps.size):Cf P w0 mu bP o a w (uU S st f xs):=by
 unfold uU;unfold JX at hv
 cases hf:S f with
 |none=>simp [hf,N.val] at hv
 |some p=>
  obtain ⟨m1,m2,m3,Gu⟩:=p;simp only [hf] at hv ⊢;obtain ⟨UO,fn,VG,anQ,aiC⟩:=hS f m1 m2 m3 Gu hf;have vm:=vm fn VG (by simpa using anQ) (by intro e;rw [e] at aiC;cases aiC);have acg:=SN m1 m2 m3 xs;generalize C9 m1 m2 m3 xs=ms at hv acg ⊢;have hlen:ms.length=vals.toList.length:=by
   have:=congrArg List.length acg;rw [List.length_map] at this;omega
  have Dy:∀(k:Nat) (m:Pm×V) (x:Value),ms[k]?=some m→vals.toList[k]?=some x→hU c st w m.2 x:=by
   intro k m x hm hx;have h1:(ms.map (·.2))[k]?=some m.2:=by rw [List.getElem?_map,hm];rfl
   rw [acg] at h1;exact aiB k m.2 x h1 hx
  have hR:=h.freeze (Jh st ms);have Kj:∀(k:Nat) (m:Pm×V) (x:Value),ms[k]?=some m→vals.toList[k]?=some x→hU (c.drop (Jh st ms)) (freeze st (Jh st ms)) w m.2 x:=fun k m x h1 h2=>(Fw.freeze w _ c st).vi (Dy k m x h1 h2)
  generalize freeze st (Jh st ms)=aiD at hv hR Kj ⊢;generalize c.drop (Jh st ms)=c0 at hR Kj;have Kj:∀(k:Nat) (m:Pm×V) (x:Value),ms[k]?=some m→vals.toList[k]?=some x→hU c0 (GZ ms aiD) w m.2 x:=fun k m x h1 h2=>(NB ms hR).2 _ _ (Kj k m x h1 h2)
  have hR:=(NB ms hR).1;generalize GZ ms aiD=EG at hv hR Kj ⊢;unfold aaA at hv;exact VB hR vm UO hlen Kj hv hd (fun h=>h) (fun c5 lO a2 w' hr _ _ Zm=>by
   simp only [N.val,Option.some.injEq] at Zm;subst Zm;exact ⟨c5,hr⟩)
theorem VH {P:Program} {S:mS} (hS:oO P S) {w0:World} {mu:Mu} {c:Cz} {st bP:St} {a:Act} {w:World} (h:Rel w0 mu c st a w) {o:Oper} {f:FuncId} {args:Array Operand} {UN:Array TypeId} (ho:o.op=.call { callee:=.value (.func f),args:=args,argTypes:=UN })
  (hv:(JX S st o.dst f (args.toList.map (pS st))).val=some bP) (hd:∀k,o.dst=some k→k<a.tmps.size):Cf P w0 mu bP o a w (kindOk S st o .one):=by
 have hq0:kindOk S st o .one=uU S st f (args.toList.map (pS st)):=by unfold kindOk;simp only [ho]
 rw [hq0];refine NC (vals:=args.map a.eval) hS h (fun fn VG q2 q3 => ?_) (by simp) (fun k m x hm hx => ?_) hv hd
 ·simp only [execOp,ho];simp [resolve,Act.eval,Deferred.ofValue,invoke,callFunc,Sem.run_bind,VG,q2,q3]
 ·rw [List.getElem?_map] at hm;rw [Array.toList_map,List.getElem?_map] at hx
  cases hy:args.toList[k]? with
  |none=>rw [hy] at hm;simp at hm
  |some y=>
   rw [hy] at hm hx;simp only [Option.map_some,Option.some.injEq] at hm hx;rw [←hm,←hx];exact cR h y
theorem VI {P:Program} {S:mS} (hS:oO P S) {w0:World} {mu:Mu} {c:Cz} {st bP:St} {a:Act} {w:World} (h:Rel w0 mu c st a w) {o:Oper} {t g:Nat} {rs:RT} {xs:List (aO rs)} {x:aO rs} {args:Array Operand} {UN:Array TypeId} (ho:o.op=.call { callee:=.value (.tmp t),args:=args,argTypes:=UN })
  (ht:dI st t=.one (.fn g rs xs)) (hx0:xs[0]?=some x) (hv:(JX S st o.dst g (args.toList.map (pS st)++zW rs x)).val=some bP) (hd:∀k,o.dst=some k→k<a.tmps.size):Cf P w0 mu bP o a w (kindOk S st o .one):=by
 have hq0:kindOk S st o .one=uU S st g (args.toList.map (pS st)++zW rs x):=by unfold kindOk;simp only [ho,ht,hx0]
 rw [hq0];have UO:=h.je t;rw [ht] at UO;obtain ⟨BT,e,aiE⟩:=UO;obtain ⟨k1,k2⟩:=Nj (st:=st) rs BT.toList x (aiE x hx0);refine NC (vals:=args.map a.eval++BT) hS h (fun fn VG q2 q3 => ?_) (by simp [k1]) (fun k m y hm hy => ?_) hv hd
 ·simp only [execOp,ho];simp [resolve,e,Deferred.ofValue,invoke,callFunc,Sem.run_bind,VG,q2,q3]
 ·rw [Array.toList_append] at hy
  by_cases hk:k<args.size
  ·rw [List.getElem?_append_left (by simpa using hk)] at hm hy;rw [List.getElem?_map] at hm;rw [Array.toList_map,List.getElem?_map] at hy
   cases hz:args.toList[k]? with
   |none=>rw [hz] at hm;simp at hm
   |some z=>
    rw [hz] at hm hy;simp only [Option.map_some,Option.some.injEq] at hm hy;rw [←hm,←hy];exact cR h z
  ·rw [List.getElem?_append_right (by simp;omega)] at hm hy;simp only [List.length_map,Array.length_toList,Array.toList_map] at hm hy;exact k2 _ m y hm hy
theorem qk {P:Program} {T:oB} (hT:jF P T) (hE:AB P T) {S:mS} (hS:oO P S) (w0:World) (mu:Mu) (n:Nat):wQ P T S w0 mu n:=by
 intro c st bP a w o h hn hd hv;have UP:∀k,o.dst=some k→k<a.tmps.size:=fun k hk=>by rw [hn];exact hd k hk
 by_cases hf:Op.PF o.op=true
 ·cases ho:o.op with
  |call cl=>
   obtain ⟨callee,args,UN⟩:=cl
   cases callee with
   |value x=>
    cases x with
    |func f=>
     unfold Ri at hv;simp only [ho] at hv;exact VH hS h ho hv UP
    |tmp t=>
     unfold Ri at hv;simp only [ho] at hv
     split at hv
     ·rename_i g rs xs ht
      cases hx0:xs[0]? with
      |none=>simp [hx0,N.val] at hv
      |some x=>
       simp only [hx0] at hv;exact VI hS h ho ht hx0 hv UP
     ·simp [N.val] at hv
    |_=>rw [ho] at hf;simp [Op.PF] at hf
   |_=>rw [ho] at hf;simp [Op.PF] at hf
  |_=>rw [ho] at hf;simp [Op.PF] at hf
 ·exact ab8 hT hE h (by simpa using hf) hv UP
end Go.TM
namespace Go.TM
open Go Go.RowKit
inductive OP where
 |int (k:IntKind)
 |bool
 |str
 |own (r:RT) (d:Md:=.sh)
 |shr (r:RT)
 |oZ (r:RT)
 |fn (g:Nat) (rs:RT)
inductive AP where
 |val (agg:Bool) (ps:List OP)
 |io (r:RT) (d:Md:=.sh)
 |box (LJ:Bool) (ps:List OP)
 |dR (ps:List OP)
def OP.ty:OP→Ty
 |.int k=>.int k
 |.bool=>.bool
 |.str=>.str
 |.own r _=>.sl r
 |.shr r=>.sl r
 |.oZ r=>.sl r
 |.fn _ rs=>.sl rs
def OP.rj:OP→Bool
 |.own _ _=>true
 |_=>false
def pb:List OP→RT→RT
 | [],t=>t
 |p::ps,t=>.cons p.ty (pb ps t)
def AP.rt:AP→RT→RT
 |.val _ ps,t=>pb ps t
 |.io r _,t=>.cons (.sl r) t
 |.box _ ps,t=>pb ps t
 |.dR ps,t=>pb ps t
def aH:List (Option AP)→RT
 | []=>.nil
 |none::l=>aH l
 |some p::l=>p.rt (aH l)
def OP.ov:(p:OP)→den p.ty→OV
 |.int k,n=>.int k n
 |.bool,b=>.bool b
 |.str,s=>.str s
 |.own r d,xs=>.own { r:=r,own:=true,xs:=xs,md:=d }
 |.shr r,xs=>.shr r xs
 |.oZ r,xs=>.oZ r xs
 |.fn g rs,xs=>.fn g rs xs
def fC:(ps:List OP)→(t:RT)→aO (pb ps t)→List OV×aO t
 | [],_,x=>([],x)
 |p::ps,t,x=>(p.ov x.1::(fC ps t x.2).1,(fC ps t x.2).2)
def AP.av:(p:AP)→(t:RT)→aO (p.rt t)→AV×aO t
 |.val agg ps,t,x=>(.val agg (fC ps t x).1,(fC ps t x).2)
 |.io r d,_,x=>(.io { r:=r,own:=true,xs:=x.1,md:=d },x.2)
 |.box _ ps,t,x=>(.box (fC ps t x).1,(fC ps t x).2)
 |.dR ps,t,x=>(.dR (fC ps t x).1,(fC ps t x).2)
def eb:(l:List (Option AP))→aO (aH l)→List (Option AV)
 | [],_=>[]
 |none::l,x=>none::eb l x
 |some p::l,x=>some (p.av (aH l) x).1::eb l (p.av (aH l) x).2
def vt:(p:OP)→OV→Option (den p.ty)
 |.int k,.int l n=>if k=l then some n else none
 |.bool,.bool b=>some b
 |.str,.str s=>some s
 |.own r d,.own A=>bif A.md.is d then ef r A.xs else none
 |.own _ _,.gj=>some ([]:List _)
 |.shr r,.shr _ xs=>ef r xs
 |.shr _,.gj=>some ([]:List _)
 |.oZ r,.oZ _ xs=>ef r xs
 |.fn g rs,.fn f _ xs=>bif Nat.beq f g then ef rs xs else none
 |_,_=>none
def fp:(ps:List OP)→(t:RT)→List OV→aO t→Option (aO (pb ps t))
 | [],_,[],y=>some y
 |p::ps,t,o::os,y=>match vt p o,fp ps t os y with
  |some x,some z=>some (x,z)
  |_,_=>none
 |_,_,_,_=>none
def Kk:(p:AP)→(t:RT)→AV→aO t→Option (aO (p.rt t))
 |.val true ps,t,.val true os,y=>fp ps t os y
 |.val false ps,t,.val false os,y=>fp ps t os y
 |.io r d,_,.io A,y=>bif A.md.is d then (match ef r A.xs with
  |some xs=>some (xs,y)
  |none=>none) else none
 |.box _ ps,t,.box os,y=>fp ps t os y
 |.dR ps,t,.dR os,y=>fp ps t os y
 |_,_,_,_=>none
def ib:(l:List AP)→List AV→Option (aO (aH (l.map some)))
 | [],[]=>some ()
 |p::l,a::as=>match ib l as with
  |some y=>Kk p (aH (l.map some)) a y
  |none=>none
 |_,_=>none
def nw (st:St):(ps:List OP)→(t:RT)→List CV→aO t→Option (aO (pb ps t)×List (Option Lb)×List (Nat×Nat))
 | [],_,[],y=>some (y,[],[])
 |p::ps,t,c::cs,y=>match ld st p.rj c,nw st ps t cs y with
  |some (o,u,r),some (z,us,rs)=>match vt p o with
   |some x=>some ((x,z),u::us,r++rs)
   |none=>none
  |_,_=>none
 |_,_,_,_=>none
def FU (st:St) (k:Nat):(p:AP)→(t:RT)→V→aO t→Option (aO (p.rt t)×List Lb×List (Nat×Nat))
 |.val agg ps,t,v,y=>
  match agg,v with
  |true,.agg cs=>(nw st ps t cs y).map fun q=>(q.1,dJ q.2.1,q.2.2)
  |false,.one c=>(nw st ps t [c] y).map fun q=>(q.1,dJ q.2.1,q.2.2)
  |_,_=>none
 |.io r d,_,v,y=>
  match v with
  |.one (.ref a j g .full)=>bif Nat.beq a k&&(Nat.beq j 0&&Nat.beq g 1) then ((cE st a j g).bind fun A=>bif A.own&&A.md.is d then (ef r A.xs).map fun xs=>((xs,y),[.sp a j],[]) else none) else none
  |_=>none
 |.box LJ ps,t,v,y=>
  match v with
  |.one (.ptr b g off)=>bif Nat.beq off 0&&(!LJ||(Nat.beq b k&&Nat.beq g 1)) then ((fM st b g).bind fun cs=>(nw st ps t cs y).map fun q=>(q.1,.box b::dJ q.2.1,q.2.2)) else none
  |_=>none
 |.dR _,_,_,_=>none
def ql (st:St):(k:Nat)→(l:List (Option AP))→Option (aO (aH l)×List Lb×List (Nat×Nat))
 |_,[]=>some ((),[],[])
 |k,none::l=>ql st (k+1) l
 |k,some p::l=>match ql st (k+1) l with
  |some (y,us,rs)=>match FU st k p (aH l) (dI st k) y with
   |some (x,u,r)=>some (x,u++us,r++rs)
   |none=>none
  |none=>none
def Sl.blank:Sl:={ v:=.one .bad,box:=.none,bg:=1,bT:=[],ag:=1 }
def eY (k:Nat):Option AV→Sl
 |none=>Sl.blank
 |some (.dR os)=>{ v:=.agg (bV k 1 0 os),box:=none,bg:=1,bT:=cj os,ag:=1 }
 |some (.val true os)=>{ v:=.agg (bV k 1 0 os),box:=none,bg:=1,bT:=cj os,ag:=1 }
 |some (.val false os)=>{ v:=match bV k 1 0 os with | [c]=>.one c | _=>.one .bad,box:=none,bg:=1,bT:=cj os,ag:=1 }
 |some (.io A)=>{ v:=.one (.ref k 0 1 .full),box:=none,bg:=1,bT:=[some A],ag:=1 }
 |some (.box os)=>{ v:=.one (.ptr k 1 0),box:=some (bV k 1 0 os),bg:=1,bT:=cj os,ag:=1 }
def rp:(k:Nat)→List (Option AV)→St
 |_,[]=>[]
 |k,a::l=>eY k a::rp (k+1) l
theorem Kl:(l:List (Option AV))→(k i:Nat)→nth (rp k l) i=(l[i]?).map (eY (k+i))
 | [],_,_=>by simp [rp]
 |a::l,k,0=>by simp [rp,nth]
 |a::l,k,i+1=>by
  simp only [rp,nth,List.getElem?_cons_succ];rw [Kl l (k+1) i,show k+1+i=k+(i+1) by omega]
theorem ND {c:Cz} {w:World} {f:Nat→Lb} {j:Nat}:(p:OP)→(o:OV)→(x:den p.ty)→vt p o=some x→{os EF:List OV}→{vs:List Value}→(∀l,cD c w f (j+1) os l→cD c w f (j+1) EF l)→cD c w f j (o::os) vs→cD c w f j (p.ov x::EF) vs
 |.int k,.int l n,x,hx,os,EF,vs,xL,h=>by
  have hx:(if k=l then some (n:Int) else none)=some (x:Int):=hx
  by_cases e:k=l
  ·rw [if_pos e] at hx;have hx:n=x:=Option.some.inj hx;obtain ⟨l',h1,h2⟩:=h;exact ⟨l',by rw [h1,e,hx],xL _ h2⟩
  ·rw [if_neg e] at hx
   cases hx
 |.bool,.bool b,x,hx,os,EF,vs,xL,h=>by
  have hx:b=x:=Option.some.inj hx;subst hx;obtain ⟨l',h1,h2⟩:=h;exact ⟨l',h1,xL _ h2⟩
 |.str,.str b,x,hx,os,EF,vs,xL,h=>by
  have hx:b=x:=Option.some.inj hx;subst hx;obtain ⟨l',h1,h2⟩:=h;exact ⟨l',h1,xL _ h2⟩
 |.own r d,.own A,x,hx,os,EF,vs,xL,h=>by
  obtain ⟨v,l',h1,⟨lc,h2⟩,h3⟩:=h;have hx:(bif A.md.is d then ef r A.xs else none)=some x:=hx;obtain ⟨hd,hx⟩:=bI hx;have hd:=Md.xe.1 hd;obtain ⟨e,rfl⟩:=cU hx;obtain ⟨r0,SP,tY,md0⟩:=A;simp only at e hd;subst e;have ho:SP=true:=h2.2.2.1;subst ho;exact ⟨v,l',h1,⟨lc,h2⟩,xL _ h3⟩
 |.own r _,.gj,x,hx,os,EF,vs,xL,h=>by
  have hx:([]:List (aO r))=x:=Option.some.inj hx;subst hx;obtain ⟨l',h1,h2⟩:=h;exact ⟨_,l',h1,⟨.nil,rfl,⟨rfl,rfl⟩,rfl,rfl⟩,xL _ h2⟩
 |.shr r,.shr q xs,x,hx,os,EF,vs,xL,h=>by
  obtain ⟨v,l',h1,h2,h3⟩:=h;have hx:ef r xs=some x:=hx;obtain ⟨e,rfl⟩:=cU hx;subst e;exact ⟨v,l',h1,h2,xL _ h3⟩
 |.shr r,.gj,x,hx,os,EF,vs,xL,h=>by
  have hx:([]:List (aO r))=x:=Option.some.inj hx;subst hx;obtain ⟨l',h1,h2⟩:=h;exact ⟨_,l',h1,(rk _ _ _ _ _).2 (.inl ⟨rfl,rfl⟩),xL _ h2⟩
 |.oZ r,.oZ q xs,x,hx,os,EF,vs,xL,h=>by
  obtain ⟨v,l',h1,h2,h3⟩:=h;have hx:ef r xs=some x:=hx;obtain ⟨e,rfl⟩:=cU hx;subst e;exact ⟨v,l',h1,h2,xL _ h3⟩
 |.fn g r,.fn f q xs,x,hx,os,EF,vs,xL,h=>by
  obtain ⟨v,l',h1,h2,h3⟩:=h;have hx:(bif Nat.beq f g then ef r xs else none)=some x:=hx;obtain ⟨hfg,hx⟩:=bI hx;have hfg:=Nat.eq_of_beq_eq_true hfg;subst hfg;obtain ⟨e,rfl⟩:=cU hx;subst e;exact ⟨v,l',h1,h2,xL _ h3⟩
 |.int _,.bool _,_,hx,_,_,_,_,_=>by cases hx
 |.int _,.str _,_,hx,_,_,_,_,_=>by cases hx
 |.int _,.own _,_,hx,_,_,_,_,_=>by cases hx
 |.int _,.shr _ _,_,hx,_,_,_,_,_=>by cases hx
 |.int _,.gj,_,hx,_,_,_,_,_=>by cases hx
 |.int _,.oZ _ _,_,hx,_,_,_,_,_=>by cases hx
 |.int _,.fn _ _ _,_,hx,_,_,_,_,_=>by cases hx
 |.bool,.int _ _,_,hx,_,_,_,_,_=>by cases hx
 |.bool,.str _,_,hx,_,_,_,_,_=>by cases hx
 |.bool,.own _,_,hx,_,_,_,_,_=>by cases hx
 |.bool,.shr _ _,_,hx,_,_,_,_,_=>by cases hx
 |.bool,.gj,_,hx,_,_,_,_,_=>by cases hx
 |.bool,.oZ _ _,_,hx,_,_,_,_,_=>by cases hx
 |.bool,.fn _ _ _,_,hx,_,_,_,_,_=>by cases hx
 |.str,.int _ _,_,hx,_,_,_,_,_=>by cases hx
 |.str,.bool _,_,hx,_,_,_,_,_=>by cases hx
 |.str,.own _,_,hx,_,_,_,_,_=>by cases hx
 |.str,.shr _ _,_,hx,_,_,_,_,_=>by cases hx
 |.str,.gj,_,hx,_,_,_,_,_=>by cases hx
 |.str,.oZ _ _,_,hx,_,_,_,_,_=>by cases hx
 |.str,.fn _ _ _,_,hx,_,_,_,_,_=>by cases hx
 |.own _ _,.int _ _,_,hx,_,_,_,_,_=>by cases hx
 |.own _ _,.bool _,_,hx,_,_,_,_,_=>by cases hx
 |.own _ _,.str _,_,hx,_,_,_,_,_=>by cases hx
 |.own _ _,.shr _ _,_,hx,_,_,_,_,_=>by cases hx
 |.own _ _,.oZ _ _,_,hx,_,_,_,_,_=>by cases hx
 |.own _ _,.fn _ _ _,_,hx,_,_,_,_,_=>by cases hx
 |.shr _,.int _ _,_,hx,_,_,_,_,_=>by cases hx
 |.shr _,.bool _,_,hx,_,_,_,_,_=>by cases hx
 |.shr _,.str _,_,hx,_,_,_,_,_=>by cases hx
 |.shr _,.own _,_,hx,_,_,_,_,_=>by cases hx
 |.shr _,.oZ _ _,_,hx,_,_,_,_,_=>by cases hx
 |.shr _,.fn _ _ _,_,hx,_,_,_,_,_=>by cases hx
 |.oZ _,.int _ _,_,hx,_,_,_,_,_=>by cases hx
 |.oZ _,.bool _,_,hx,_,_,_,_,_=>by cases hx
 |.oZ _,.str _,_,hx,_,_,_,_,_=>by cases hx
 |.oZ _,.own _,_,hx,_,_,_,_,_=>by cases hx
 |.oZ _,.shr _ _,_,hx,_,_,_,_,_=>by cases hx
 |.oZ _,.gj,_,hx,_,_,_,_,_=>by cases hx
 |.oZ _,.fn _ _ _,_,hx,_,_,_,_,_=>by cases hx
 |.fn _ _,.int _ _,_,hx,_,_,_,_,_=>by cases hx
 |.fn _ _,.bool _,_,hx,_,_,_,_,_=>by cases hx
 |.fn _ _,.str _,_,hx,_,_,_,_,_=>by cases hx
 |.fn _ _,.own _,_,hx,_,_,_,_,_=>by cases hx
 |.fn _ _,.shr _ _,_,hx,_,_,_,_,_=>by cases hx
 |.fn _ _,.gj,_,hx,_,_,_,_,_=>by cases hx
 |.fn _ _,.oZ _ _,_,hx,_,_,_,_,_=>by cases hx
theorem xQ {c:Cz} {w:World} {f:Nat→Lb}:(ps:List OP)→(t:RT)→(os:List OV)→(y:aO t)→{x:aO (pb ps t)}→fp ps t os y=some x→(fC ps t x).2=y∧∀(j:Nat) (vs:List Value),cD c w f j os vs→cD c w f j (fC ps t x).1 vs
 | [],t,[],y,x,h=>by
  have h:y=x:=Option.some.inj h;subst h;exact ⟨rfl,fun _ _ h=>h⟩
 | [],_,_::_,_,_,h=>by simp [fp] at h
 |_::_,_,[],_,_,h=>by simp [fp] at h
 |p::ps,t,o::os,y,x,h=>by
  unfold fp at h
  cases h1:vt p o with
  |none=>simp [h1] at h
  |some a=>
   cases h2:fp ps t os y with
   |none=>simp [h1,h2] at h
   |some z=>
    simp only [h1,h2] at h;have h:(a,z)=x:=Option.some.inj h;subst h;obtain ⟨g1,g2⟩:=xQ (c:=c) (w:=w) (f:=f) ps t os y h2;exact ⟨g1,fun j vs hh=>ND p o a h1 (fun l=>g2 (j+1) l) hh⟩
theorem cD.VJ {c:Cz} {w:World} {f:Nat→Lb}:(os:List OV)→(j:Nat)→(vs:List Value)→cD c w f j os vs→vs.length=os.length∧∀(k:Nat) (o:OV) (u:Value),os[k]?=some o→vs[k]?=some u→cD c w f (j+k) [o] [u]
 | [],j,vs,h=>by
  subst h;exact ⟨rfl,fun k o u h=>by simp at h⟩
 |o::os,j,vs,h=>by
  obtain ⟨v,l,rfl,h1,h2⟩:∃v l,vs=v::l∧cD c w f j [o] [v]∧cD c w f (j+1) os l:=by
   cases o with
   |int k n=>obtain ⟨l,h1,h2⟩:=h;exact ⟨_,l,h1,⟨[],rfl,rfl⟩,h2⟩
   |bool b=>obtain ⟨l,h1,h2⟩:=h;exact ⟨_,l,h1,⟨[],rfl,rfl⟩,h2⟩
   |str b=>obtain ⟨l,h1,h2⟩:=h;exact ⟨_,l,h1,⟨[],rfl,rfl⟩,h2⟩
   |gj=>obtain ⟨l,h1,h2⟩:=h;exact ⟨_,l,h1,⟨[],rfl,rfl⟩,h2⟩
   |shr r xs=>obtain ⟨v,l,h1,h2,h3⟩:=h;exact ⟨v,l,h1,⟨v,[],rfl,h2,rfl⟩,h3⟩
   |oZ r xs=>obtain ⟨v,l,h1,h2,h3⟩:=h;exact ⟨v,l,h1,⟨v,[],rfl,h2,rfl⟩,h3⟩
   |fn g r xs=>obtain ⟨v,l,h1,h2,h3⟩:=h;exact ⟨v,l,h1,⟨v,[],rfl,h2,rfl⟩,h3⟩
   |own A=>obtain ⟨v,l,h1,h2,h3⟩:=h;exact ⟨v,l,h1,⟨v,[],rfl,h2,rfl⟩,h3⟩
  obtain ⟨g1,g2⟩:=cD.VJ os (j+1) l h2;refine ⟨by simp [g1],fun k o' u ho hu => ?_⟩
  cases k with
  |zero=>
   simp only [List.getElem?_cons_zero,Option.some.injEq] at ho hu;subst ho hu;exact h1
  |succ k=>
   have:=g2 k o' u (by simpa using ho) (by simpa using hu)
   rwa [show j+1+k=j+(k+1) by omega] at this
theorem Km:(ps:List OP)→(t:RT)→(os:List OV)→(y:aO t)→{x:aO (pb ps t)}→fp ps t os y=some x→∀(k:Nat) (o':OV),(fC ps t x).1[k]?=some o'→∃(p:OP) (o:OV) (z:den p.ty),os[k]?=some o∧vt p o=some z∧o'=p.ov z
 | [],t,[],y,x,h=>by
  intro k o' hk;simp [fC] at hk
 | [],_,_::_,_,_,h=>by simp [fp] at h
 |_::_,_,[],_,_,h=>by simp [fp] at h
 |p::ps,t,o::os,y,x,h=>by
  unfold fp at h
  cases h1:vt p o with
  |none=>simp [h1] at h
  |some a=>
   cases h2:fp ps t os y with
   |none=>simp [h1,h2] at h
   |some z=>
    simp only [h1,h2] at h;have h:(a,z)=x:=Option.some.inj h;subst h;intro k o' hk
    cases k with
    |zero=>
     have hk:some (p.ov a)=some o':=hk;simp only [Option.some.injEq] at hk;exact ⟨p,o,a,rfl,h1,hk.symm⟩
    |succ k=>
     have hk:(fC ps t z).1[k]?=some o':=hk;obtain ⟨p',o1,z',q1,q2,q3⟩:=Km ps t os y h2 k o' hk;exact ⟨p',o1,z',by simpa using q1,q2,q3⟩
theorem SQ {p:OP} {o:OV} {z:den p.ty} (h:vt p o=some z) {A:ns} (he:p.ov z=.own A):(∃B,o=.own B∧A.r=B.r∧A.own=true∧A.xs.length=B.xs.length∧(B.own=true→A=B))∨(o=.gj∧∃r d,A={ r:=r,own:=true,xs:=([]:List (aO r)),md:=d }):=by
 cases p with
 |own r d=>
  injection he with he;subst he
  cases o with
  |own B=>
   have h:(bif B.md.is d then ef r B.xs else none)=some z:=h;obtain ⟨hd,h⟩:=bI h;have hd:=Md.xe.1 hd;obtain ⟨e,rfl⟩:=cU h;obtain ⟨r0,SP,tY,md0⟩:=B;simp only at e hd;subst e;exact .inl ⟨_,rfl,rfl,rfl,rfl,fun ho=>by simp only at ho;subst ho;rfl⟩
  |gj=>
   have h:([]:List (aO r))=z:=Option.some.inj h;subst h;exact .inr ⟨rfl,r,d,rfl⟩
  |_=>cases h
 |int _=>cases he
 |bool=>cases he
 |str=>cases he
 |shr _=>cases he
 |oZ _=>cases he
 |fn _ _=>cases he
theorem NF {p:OP} (z:den p.ty):p.ov z≠.gj:=by
 cases p<;>(intro h;cases h)
theorem NG {c:Cz} {w:World} {i:Nat} {lc:Nat→Loc} {p:AP} {t:RT} {av:AV} {y:aO t} {x:aO (p.rt t)} (h:Kk p t av y=some x):(p.av t x).2=y∧∀v,wR c w i lc av v→wR c w i lc (p.av t x).1 v:=by
 cases p with
 |val agg ps=>
  cases agg with
  |true=>
   cases av with
   |val Zn os=>
    cases Zn with
    |true=>
     have h:fp ps t os y=some x:=h;obtain ⟨g1,g2⟩:=xQ (c:=c) (w:=w) (f:=.dC i) ps t os y h;exact ⟨g1,fun v ⟨vs,hv,hl⟩=>⟨vs,hv,g2 0 _ hl⟩⟩
    |false=>cases h
   |_=>cases h
  |false=>
   cases av with
   |val Zn os=>
    cases Zn with
    |false=>
     have h:fp ps t os y=some x:=h;obtain ⟨g1,g2⟩:=xQ (c:=c) (w:=w) (f:=.dC i) ps t os y h;exact ⟨g1,fun v hl=>g2 0 _ hl⟩
    |true=>cases h
   |_=>cases h
 |io r d=>
  cases av with
  |io A=>
   have h:(bif A.md.is d then (match ef r A.xs with | some xs=>some ((xs,y):aO (.cons (.sl r) t)) | none=>none) else none)=some x:=h;obtain ⟨hd,h⟩:=bI h;have hd:=Md.xe.1 hd
   cases hc:ef r A.xs with
   |none=>rw [hc] at h;cases h
   |some xs=>
    rw [hc] at h
    cases h
    refine ⟨rfl,fun v hl => ?_⟩;obtain ⟨e,rfl⟩:=cU hc;obtain ⟨r0,SP,tY,md0⟩:=A;simp only at e hd;subst e;have ho:SP=true:=hl.2.2.1;subst ho;exact hl
  |_=>cases h
 |box LJ ps=>
  cases av with
  |box os=>
   have h:fp ps t os y=some x:=h;obtain ⟨g1,g2⟩:=xQ (c:=c) (w:=w) (f:=.dC i) ps t os y h;exact ⟨g1,fun v ⟨rn,vs,ty,q1,q2,q3,q4⟩=>⟨rn,vs,ty,q1,q2,q3,g2 0 _ q4⟩⟩
  |_=>cases h
 |dR ps=>
  cases av with
  |dR os=>
   have h:fp ps t os y=some x:=h;obtain ⟨g1,g2⟩:=xQ (c:=c) (w:=w) (f:=.dC i) ps t os y h;refine ⟨g1,fun v ⟨vs,q1,q2,q3⟩=>⟨vs,q1,g2 0 _ q2,fun j o u ho hu => ?_⟩⟩;obtain ⟨p,o0,z,k1,k2,rfl⟩:=Km ps t os y h j o ho;have h0:=q3 j o0 u k1 hu;have hL:=(cD.VJ os 0 _ q2).2 j o0 u k1 hu;unfold Vu at h0 ⊢
   cases he:p.ov z with
   |gj=>exact absurd he (NF z)
   |own A=>
    rcases SQ k2 he with ⟨B,rfl,e1,e2,e3,e4⟩ | ⟨rfl,r,d,rfl⟩
    ·have h0:OwnAt c w (.dC i j) (lc j) B u:=h0;have:=e4 h0.2.2.1;subst this;exact h0
    ·have h0:lc j=.nil:=h0;obtain ⟨l,hl,_⟩:=hL;injection hl with hl _;subst hl;show OwnAt c w (.dC i j) (lc j) _ _;rw [h0];exact ⟨rfl,⟨rfl,rfl⟩,rfl,rfl⟩
   |_=>trivial
  |_=>cases h
end Go.TM
namespace Go.TM
open Go Go.RowKit
theorem AE {w0:World} {mu:Mu} {c:Cz} {st:St} {a:Act} {w:World} (h:Rel w0 mu c st a w) {ρ:Lb→Option Lb} {f:Nat→Lb}:(ps:List OP)→(t:RT)→(cs:List CV)→(y:aO t)→(vs:List Value)→(j:Nat)→iO c st w cs vs→{x:aO (pb ps t)}→{u:List (Option Lb)}→{r:List (Nat×Nat)}→
  nw st ps t cs y=some (x,u,r)→(fC ps t x).2=y∧(∀l∈dJ u,l.real=true)∧((∀k l,nth u k=some (some l)→ρ l=some (f (j+k)))→(∀p∈r,ρ (.sp p.1 p.2)=none)→cD (c.map ρ) w f j (fC ps t x).1 vs)
 | [],t,[],y,vs,j,hl,x,u,r,he=>by
  have he:some (y,([]:List (Option Lb)),([]:List (Nat×Nat)))=some (x,u,r):=he;injection he with he;injection he with e1 e2;injection e2 with e2 e3;subst e1 e2 e3;have:=hl.1;simp at this;exact ⟨rfl,by simp [dJ],fun _ _=>List.length_eq_zero_iff.1 this.symm⟩
 | [],t,_::_,y,vs,j,hl,x,u,r,he=>by simp [nw] at he
 |_::_,t,[],y,vs,j,hl,x,u,r,he=>by simp [nw] at he
 |p::ps,t,cx::cs,y,vs,j,hl,x,u,r,he=>by
  obtain ⟨v,l,rfl,hx,By⟩:=hl.aaG;unfold nw at he
  cases hc:ld st p.rj cx with
  |none=>simp [hc] at he
  |some q1=>
   obtain ⟨o,u1,r1⟩:=q1
   cases hq:nw st ps t cs y with
   |none=>simp [hc,hq] at he
   |some q2=>
    obtain ⟨z,us,rs⟩:=q2;simp only [hc,hq] at he
    cases ho:vt p o with
    |none=>simp [ho] at he
    |some a1=>
     simp only [ho] at he;injection he with he;injection he with e1 e2;injection e2 with e2 e3;subst e1 e2 e3;obtain ⟨g1,g2,g3⟩:=AE h (ρ:=ρ) (f:=f) ps t cs y l (j+1) By hq;refine ⟨g1,fun l' hm => ?_,fun hu hr => ?_⟩
     ·rw [lj] at hm;rcases List.mem_cons.1 hm with hm | hm
      ·obtain ⟨s,k,rfl⟩:=J8 hc l' hm.symm;rfl
      ·exact g2 l' (lj.2 hm)
     ·have gM:=g3 (fun k' l' hk=>by
       have:=hu (k'+1) l' hk
       rwa [show j+(k'+1)=j+1+k' by omega] at this) (fun p hp=>hr p (List.mem_append_right _ hp))
      have h1:=Rs h (f:=f) (j:=j) hx hc (fun l' By=>hu 0 l' (by rw [By];rfl)) (fun p hp=>hr p (List.mem_append_left _ hp)) gM;exact ND p o a1 ho (fun _ h=>h) h1
def EP (c:Cz) (w:World) (lc:Nat→Nat→Loc) (a:Act) (k:Nat) (l:List (Option AV)):Prop:=
 ∀i av,l[i]?=some (some av)→wR c w (k+i) (lc (k+i)) av (a.eval (.tmp (k+i)))
theorem DA {w0:World} {mu:Mu} {c:Cz} {st:St} {a:Act} {w:World} (h:Rel w0 mu c st a w) (k:Nat) {p:AP} {t:RT} {V:V} {y:aO t} {v:Value} (hV:hU c st w V v) {x:aO (p.rt t)} {u:List Lb} {r:List (Nat×Nat)} (he:FU st k p t V y=some (x,u,r)) :
  (p.av t x).2=y∧(∀l∈u,l.real=true)∧∃tb:List (Lb×Lb),tb.map (·.1)=u∧(∀p∈tb,p.2.nu=true)∧∀ρ:Lb→Option Lb,(∀p∈tb,ρ p.1=some p.2)→(∀p∈r,ρ (.sp p.1 p.2)=none)→wR (c.map ρ) w k (c.lc k) (p.av t x).1 v:=by
 have vals:∀(ps:List OP) (cs:List CV) (x:aO (pb ps t)) (us:List (Option Lb)) (rs:List (Nat×Nat)) (vs:List Value),iO c st w cs vs→nw st ps t cs y=some (x,us,rs)→(fC ps t x).2=y∧(∀l∈dJ us,l.real=true)∧
   ∀ρ:Lb→Option Lb,(∀p∈Dv (.dC k) 0 us,ρ p.1=some p.2)→(∀p∈rs,ρ (.sp p.1 p.2)=none)→cD (c.map ρ) w (.dC k) 0 (fC ps t x).1 vs:=by
  intro ps cs x us rs vs hl hq;refine ⟨(AE h (ρ:=fun _=>none) (f:=.dC k) ps t cs y vs 0 hl hq).1,(AE h (ρ:=fun _=>none) (f:=.dC k) ps t cs y vs 0 hl hq).2.1,fun ρ hp hr=>(AE h (ρ:=ρ) (f:=.dC k) ps t cs y vs 0 hl hq).2.2 (fun k' l hk => ?_) hr⟩;have:=hp _ (AD (.dC k) 0 us k' l hk);simpa using this
 cases p with
 |val agg ps=>
  cases agg with
  |true=>
   cases V with
   |agg cs=>
    have he:(nw st ps t cs y).map (fun q=>(q.1,dJ q.2.1,q.2.2))=some (x,u,r):=he
    cases hq:nw st ps t cs y with
    |none=>rw [hq] at he;cases he
    |some q=>
     obtain ⟨z,us,rs⟩:=q;rw [hq] at he;injection he with he;injection he with e1 e2;injection e2 with e2 e3;subst e1 e2 e3;obtain ⟨vs,rfl,hl⟩:=hV;obtain ⟨g1,g2,g3⟩:=vals _ _ _ _ _ _ hl hq;exact ⟨g1,g2,lX k (.val true []) [] us,pH _ _ _ _,pI _ _ _ _,fun ρ hp hr=>⟨vs,rfl,g3 ρ (fun p lJ=>hp p (by simpa [lX] using lJ)) hr⟩⟩
   |one _=>cases he
   |qd _=>cases he
  |false=>
   cases V with
   |one cx=>
    have he:(nw st ps t [cx] y).map (fun q=>(q.1,dJ q.2.1,q.2.2))=some (x,u,r):=he
    cases hq:nw st ps t [cx] y with
    |none=>rw [hq] at he;cases he
    |some q=>
     obtain ⟨z,us,rs⟩:=q;rw [hq] at he;injection he with he;injection he with e1 e2;injection e2 with e2 e3;subst e1 e2 e3;obtain ⟨g1,g2,g3⟩:=vals _ _ _ _ _ [v] ⟨rfl,fun k y z hy hz=>by
      cases k with
      |zero=>simp at hy hz;subst hy hz;exact hV
      |succ k=>simp at hy⟩ hq
     exact ⟨g1,g2,lX k (.val true []) [] us,pH _ _ _ _,pI _ _ _ _,fun ρ hp hr=>g3 ρ (fun p lJ=>hp p (by simpa [lX] using lJ)) hr⟩
   |agg _=>cases he
   |qd _=>cases he
 |io rr d=>
  cases V with
  |one cx=>
   cases cx with
   |ref s j g vw=>
    cases vw with
    |full=>
     have he:(bif Nat.beq s k&&(Nat.beq j 0&&Nat.beq g 1) then ((cE st s j g).bind fun A=>bif A.own&&A.md.is d then (ef rr A.xs).map fun xs=>((xs,y),[Lb.sp s j],([]:List (Nat×Nat))) else none) else none)=some (x,u,r):=he;obtain ⟨h1,BV⟩:=bI he;clear he;rw [Bool.and_eq_true,Bool.and_eq_true] at h1;have e1:=Nat.eq_of_beq_eq_true h1.1;have e2:=Nat.eq_of_beq_eq_true h1.2.1;subst e1 e2
     cases hA:cE st s 0 g with
     |none=>rw [hA] at BV;cases BV
     |some A=>
      rw [hA] at BV;obtain ⟨ho,he2⟩:=bI BV;rw [Bool.and_eq_true] at ho;have hd:=Md.xe.1 ho.2;have ho:=ho.1
      cases hc:ef rr A.xs with
      |none=>rw [hc] at he2;cases he2
      |some xs=>
       rw [hc] at he2;injection he2 with he2;injection he2 with e1 e2;injection e2 with e2 e3;subst e1 e2 e3;refine ⟨rfl,by simp [Lb.real],[(.sp s 0,.dC s 0)],rfl,by simp [Lb.nu],fun ρ hp _ => ?_⟩;have ha:=Dr h hA;have hs:=hV.2.2 A hA;have hρ:ρ (.sp s 0)=some (.dC s 0):=hp (.sp s 0,.dC s 0) (by simp);obtain ⟨e,rfl⟩:=cU hc;obtain ⟨r0,SP,tY,md0⟩:=A;simp only at e hd;subst e;have ho:SP=true:=by first | exact ho | exact ho.1
       subst ho;refine ⟨hV.1,hs,rfl,?_⟩;unfold fy at ha
       cases nk:c.lc s 0 with
       |nil=>rw [nk] at ha;exact ha
       |«at» b off cap=>
        rw [nk] at ha;obtain ⟨h0,h2,h3,h4⟩:=ha;exact ⟨(Cz.nV h0).trans hρ,h2,h3,h4.map hρ⟩
    |«from» _=>cases he
    |sub _ _=>cases he
   |_=>cases he
  |agg _=>cases he
  |qd _=>cases he
 |box LJ ps=>
  cases V with
  |one cx=>
   cases cx with
   |ptr b g off=>
    have he:(bif Nat.beq off 0&&(!LJ||(Nat.beq b k&&Nat.beq g 1)) then ((fM st b g).bind fun cs=>(nw st ps t cs y).map fun q=>(q.1,Lb.box b::dJ q.2.1,q.2.2)) else none)=some (x,u,r):=he;obtain ⟨h1,BV⟩:=bI he;clear he;rw [Bool.and_eq_true] at h1;have e1:=Nat.eq_of_beq_eq_true h1.1;subst e1
    cases hb:fM st b g with
    |none=>rw [hb] at BV;cases BV
    |some cs=>
     rw [hb] at BV;simp only [Option.bind_some] at BV
     cases hq:nw st ps t cs y with
     |none=>rw [hq] at BV;cases BV
     |some q=>
      obtain ⟨z,us,rs⟩:=q;rw [hq] at BV;injection BV with BV;injection BV with e1 e2;injection e2 with e2 e3;subst e1 e2 e3;obtain ⟨sl,k1,k2,k3⟩:=j5 hb;obtain ⟨h1,vs,ty,h2,h3⟩:=h.boxes b sl cs k1 k3;obtain ⟨g1,g2,g3⟩:=vals _ _ _ _ _ _ h3 hq;refine ⟨g1,fun l hl => ?_,lX k (.box []) [.box b] us,by rw [pH];rfl,pI _ _ _ _,fun ρ hp hr=>⟨c.bx b,vs,ty,hV.2.2 cs hb,?_,h2,g3 ρ (fun p lJ=>hp p (List.mem_append_right _ lJ)) hr⟩⟩
      ·rcases List.mem_cons.1 hl with rfl | hl
       ·rfl
       ·exact g2 l hl
      ·exact (Cz.nV h1).trans (hp (.box b,.xK k) (by simp [lX]))
   |_=>cases he
  |agg _=>cases he
  |qd _=>cases he
 |dR ps=>cases he
theorem AF {w0:World} {mu:Mu} {c:Cz} {st:St} {a:Act} {w:World} (h:Rel w0 mu c st a w):(l:List (Option AP))→(k:Nat)→{x:aO (aH l)}→{u:List Lb}→{r:List (Nat×Nat)}→ql st k l=some (x,u,r)→
  (∀l∈u,l.real=true)∧∃tb:List (Lb×Lb),tb.map (·.1)=u∧(∀p∈tb,p.2.nu=true)∧∀ρ:Lb→Option Lb,(∀p∈tb,ρ p.1=some p.2)→(∀p∈r,ρ (.sp p.1 p.2)=none)→EP (c.map ρ) w c.lc a k (eb l x)
 | [],k,x,u,r,he=>by
  have he:some ((),([]:List Lb),([]:List (Nat×Nat)))=some (x,u,r):=he;injection he with he;injection he with _ e2;injection e2 with e2 e3;subst e2 e3;exact ⟨by simp,[],rfl,by simp,fun ρ _ _ i av hi=>by simp [eb] at hi⟩
 |none::l,k,x,u,r,he=>by
  obtain ⟨g1,tb,g2,g3,g4⟩:=AF h l (k+1) he;refine ⟨g1,tb,g2,g3,fun ρ hp hr i av hi => ?_⟩
  cases i with
  |zero=>simp [eb] at hi
  |succ i=>
   have:=g4 ρ hp hr i av (by simpa [eb] using hi)
   rwa [show k+1+i=k+(i+1) by omega] at this
 |some p::l,k,x,u,r,he=>by
  unfold ql at he
  cases h1:ql st (k+1) l with
  |none=>simp [h1] at he
  |some q1=>
   obtain ⟨y,us,rs⟩:=q1;simp only [h1] at he
   cases h2:FU st k p (aH l) (dI st k) y with
   |none=>simp [h2] at he
   |some q2=>
    obtain ⟨x1,u1,r1⟩:=q2;simp only [h2] at he;injection he with he;injection he with e1 e2;injection e2 with e2 e3;subst e1 e2 e3;obtain ⟨g1,tb,g2,g3,g4⟩:=AF h l (k+1) h1;obtain ⟨a1,a2,ta,a3,a4,a5⟩:=DA h k (h.je k) h2;refine ⟨fun l' hl => ?_,ta++tb,by simp [a3,g2],fun p hp => ?_,fun ρ hp hr i av hi => ?_⟩
    ·rcases List.mem_append.1 hl with hl | hl
     ·exact a2 l' hl
     ·exact g1 l' hl
    ·rcases List.mem_append.1 hp with hp | hp
     ·exact a4 p hp
     ·exact g3 p hp
    ·cases i with
     |zero=>
      have hi:some (some (p.av (aH l) x1).1)=some (some av):=hi;simp only [Option.some.injEq] at hi;subst hi;exact a5 ρ (fun p lJ=>hp p (List.mem_append_left _ lJ)) (fun p lJ=>hr p (List.mem_append_left _ lJ))
     |succ i=>
      have hi:(eb l (p.av (aH l) x1).2)[i]?=some (some av):=hi;rw [a1] at hi;have:=g4 ρ (fun p lJ=>hp p (List.mem_append_right _ lJ)) (fun p lJ=>hr p (List.mem_append_right _ lJ)) i av hi
      rwa [show k+1+i=k+(i+1) by omega] at this
end Go.TM
namespace Go.TM
open Go Go.RowKit
def VK (L:List (Option AV)) (lc:Nat→Nat→Loc) (a:Act):Sk→Prop
 |.arr i j g W n l=>g=1∧i<L.length∧∀av,L[i]?=some (some av)→(∃A,av=.io A∧(j=0→A.r.width=W∧A.xs.length=n∧lc i 0=l))∨∃os,av=.dR os∧∀A,os[j]?=some (.own A)→A.r.width=W∧A.xs.length=n∧lc i j=l
 |.box i g rn=>g=1∧i<L.length∧∀os,L[i]?=some (some (.box os))→a.eval (.tmp i)=.pointer (some ⟨rn,0,none⟩)
def VL:Lb→Lb
 |.dC i j=>.sp i j
 |.xK i=>.box i
 |l=>l
structure VM (c:Cz) (w:World) (k:Nat) (av:Option AV) (u:Value) (lio:Nat→Loc) (rn:Nat) (lcs:Nat→Loc):Prop where
 arr:∀j A,nth (eY k av).bT j=some (some A)→∃v,OwnAt c w (.dC k j) (lcs j) A v
 reg:∀(c2:Cz) (lO:St),(∀b,c.ok b→c2.ok b)→c2.bx k=rn→c2.lc k=lcs→nth lO k=some (eY k av)→hU c2 lO w (eY k av).v u
 box:∀cs,(eY k av).box=some cs→u=.pointer (some ⟨rn,0,none⟩)∧c.own rn=some (.xK k)∧∃vs ty,w.heap[rn]?=some (.cells vs ty (0,0))∧
  ∀(c2:Cz) (lO:St),(∀b,c.ok b→c2.ok b)→c2.lc k=lcs→nth lO k=some (eY k av)→iO c2 lO w cs vs.toList
 io:∀A,av=some (.io A)→lcs 0=lio 0
 dR:∀os,av=some (.dR os)→lcs=lio
theorem uW {st:St} {k j:Nat} {av:Option AV} {A:ns} (h:nth st k=some (eY k av)) (hA:cE st k j 1=some A):nth (eY k av).bT j=some (some A):=by
 obtain ⟨sl,h1,_,h3⟩:=dB hA;rw [h] at h1;cases h1;exact h3
theorem uX {st:St} {k:Nat} {av:Option AV} (h:nth st k=some (eY k av)):gJ st k=1:=by
 unfold gJ;rw [h]
 cases av with
 |none=>rfl
 |some av=>cases av with
  |val agg os=>cases agg<;>rfl
  |io A=>rfl
  |box os=>rfl
  |dR os=>rfl
theorem Ko {st:St} {k:Nat} {av:Option AV} (h:nth st k=some (eY k av)):jW st k=1:=by
 unfold jW;rw [h]
 cases av with
 |none=>rfl
 |some av=>cases av with
  |val agg os=>cases agg<;>rfl
  |io A=>rfl
  |box os=>rfl
  |dR os=>rfl
theorem DB:(os:List OV)→(j:Nat)→{A:ns}→nth (cj os) j=some (some A)→os[j]?=some (.own A)
 | [],_,_,h=>by simp [cj] at h
 |o::os,0,A,h=>by
  simp only [cj,nth,Option.some.injEq] at h
  cases o with
  |own B=>injection h with h;subst h;rfl
  |_=>cases h
 |o::os,j+1,A,h=>by
  have:=DB os j (A:=A) h;simpa using this
theorem Kp {d g:Nat}:(os:List OV)→(j k:Nat)→(o:OV)→os[k]?=some o→∃x,bV d g (j+k) [o]=[x]∧(bV d g j os)[k]?=some x
 | [],_,_,_,h=>by simp at h
 |o::os,j,0,o',h=>by
  simp only [List.getElem?_cons_zero,Option.some.injEq] at h;subst h
  cases o<;>exact ⟨_,rfl,rfl⟩
 |o::os,j,k+1,o',h=>by
  obtain ⟨x,h1,h2⟩:=Kp (d:=d) (g:=g) os (j+1) k o' (by simpa using h);rw [show j+1+k=j+(k+1) by omega] at h1;refine ⟨x,h1,?_⟩
  cases o<;>simpa [bV] using h2
theorem Hw {d g:Nat}:(os:List OV)→(j:Nat)→(bV d g j os).length=os.length
 | [],_=>rfl
 |o::os,j=>by cases o<;>simp [bV,Hw os (j+1)]
theorem cD.VN {c:Cz} {w:World} {f:Nat→Lb} {os:List OV} {vs:List Value} (h:cD c w f 0 os vs) (lcs:Nat→Loc) (ho:∀k A u,os[k]?=some (.own A)→vs[k]?=some u→∃l,OwnAt c w l (lcs k) A u)
  (c2:Cz) (lO:St) (d g:Nat) (iN:∀b,c.ok b→c2.ok b) (nk:∀k,c2.lc d k=lcs k) (EL:∀k A,cE lO d k g=some A→os[k]?=some (.own A)) (hg:g≤gJ lO d):iO c2 lO w (bV d g 0 os) vs:=by
 obtain ⟨h1,h2⟩:=cD.VJ os 0 vs h;refine ⟨by rw [Hw,h1],fun k x v hx hv => ?_⟩;have dO:k<os.length:=by rw [←h1];exact (List.getElem?_eq_some_iff.1 hv).1
 have PI:os[k]?=some os[k]:=List.getElem?_eq_getElem dO;obtain ⟨y,q1,q2⟩:=Kp (d:=d) (g:=g) os 0 k _ PI;rw [q2] at hx
 cases hx
 have hL:=h2 k _ v PI hv;rw [Nat.zero_add] at q1;generalize os[k]=o at *
 cases o with
 |own A=>
  simp only [bV,List.cons.injEq,and_true] at q1;subst q1;obtain ⟨l,hO⟩:=ho k A v PI hv;refine ⟨hO.1,hg,fun A' iy => ?_⟩;have:=EL k A' iy;rw [PI] at this
  cases this
  rw [nk];exact hO.2.1
 |shr r xs=>
  simp only [bV,List.cons.injEq,and_true] at q1;subst q1;obtain ⟨v',l,e,h3,_⟩:=hL
  cases e
  exact ev.stays ⟨Nat.le_refl _,fun _ _ _=>rfl,fun b _ hb=>iN b hb⟩ _ _ _ h3
 |oZ r xs=>
  simp only [bV,List.cons.injEq,and_true] at q1;subst q1;obtain ⟨v',l,e,⟨b,oo,e1,e2,e3,e4⟩,_⟩:=hL
  cases e
  exact ⟨b,oo,e1,e2,iN b e3,fun x hx=>fx.stays ⟨Nat.le_refl _,fun _ _ _=>rfl,fun b _ hb=>iN b hb⟩ _ _ _ _ rfl (e4 x hx)⟩
 |fn fg r xs=>
  simp only [bV,List.cons.injEq,and_true] at q1;subst q1;obtain ⟨v',l,e,h3,_⟩:=hL
  cases e
  exact h3.stays ⟨Nat.le_refl _,fun _ _ _=>rfl,fun b _ hb=>iN b hb⟩
 |_=>
  simp only [bV,List.cons.injEq,and_true] at q1;subst q1;obtain ⟨l,e,_⟩:=hL
  cases e
  rfl
theorem Zo {c:Cz} {w:World} {k:Nat} {lio:Nat→Loc} {av:Option AV} {u:Value} (h:∀v,av=some v→wR c w k lio v u):∃rn lcs,VM c w k av u lio rn lcs:=by
 cases av with
 |none=>exact ⟨0,fun _=>.nil,fun j A hA=>by simp [eY,Sl.blank] at hA,fun c2 lO _ _ _ _=>trivial,fun cs Ao=>by simp [eY,Sl.blank] at Ao,fun A hA=>(by cases hA),fun A hA=>(by cases hA)⟩
 |some av=>
  have h:=h av rfl
  cases av with
  |val agg os=>
   cases agg with
   |true=>
    obtain ⟨vs,rfl,hl⟩:=h;obtain ⟨lcs,g1,g2⟩:=cD.cells os 0 _ hl;simp only [Nat.zero_add] at g1 g2;refine ⟨0,lcs,fun j A hA=>g1 j A hA,fun c2 lO iN _ nk hn=>⟨vs,rfl,?_⟩,fun cs Ao=>by simp [eY] at Ao,fun A hA=>(by cases hA),fun A hA=>(by cases hA)⟩;exact g2 c2 lO k 1 iN (fun j _=>by rw [nk]) (fun j A _ hA=>uW hn hA) (by rw [uX hn];exact Nat.le_refl _)
   |false=>
    have hl:cD c w (.dC k) 0 os [u]:=h;obtain ⟨lcs,g1,g2⟩:=cD.cells os 0 _ hl;simp only [Nat.zero_add] at g1 g2;refine ⟨0,lcs,fun j A hA=>g1 j A hA,fun c2 lO iN _ nk hn => ?_,fun cs Ao=>by simp [eY] at Ao,fun A hA=>(by cases hA),fun A hA=>(by cases hA)⟩;have hR:=g2 c2 lO k 1 iN (fun j _=>by rw [nk]) (fun j A _ hA=>uW hn hA) (by rw [uX hn];exact Nat.le_refl _);show hU c2 lO w (match bV k 1 0 os with | [c]=>.one c | _=>.one .bad) u;have h1:=hR.1
    cases hc:bV k 1 0 os with
    |nil=>trivial
    |cons x l=>cases l with
     |nil=>rw [hc] at hR;exact hR.2 0 x u rfl rfl
     |cons _ _=>trivial
  |io A=>
   have hO:OwnAt c w (.dC k 0) (lio 0) A u:=h;refine ⟨0,lio,fun j A' iy => ?_,fun c2 lO iN _ nk hn => ?_,fun cs Ao=>by simp [eY] at Ao,fun A hA=>rfl,fun A hA=>by cases hA⟩
   ·cases j with
    |zero=>simp [eY,nth] at iy;subst iy;exact ⟨u,hO⟩
    |succ j=>simp [eY,nth] at iy
   ·refine ⟨hO.1,by rw [uX hn];exact Nat.le_refl _,fun A' iy => ?_⟩;have:=uW hn iy;simp [eY,nth] at this;subst this;rw [nk];exact hO.2.1
  |dR os=>
   obtain ⟨vs,rfl,hl,ach⟩:=h;have ku:∀j A u,os[j]?=some (.own A)→vs.toList[j]?=some u→OwnAt c w (.dC k j) (lio j) A u:=fun j A u h1 h2=>ach j _ u h1 h2
   obtain ⟨n1,_⟩:=cD.VJ os 0 _ hl;refine ⟨0,lio,fun j A' iy => ?_,fun c2 lO iN _ nk hn=>⟨vs,rfl,?_⟩,fun cs Ao=>by simp [eY] at Ao,fun A hA=>(by cases hA),fun EF _=>rfl⟩
   ·have hj:=DB os j iy;have dO:j<vs.toList.length:=by rw [n1];exact (List.getElem?_eq_some_iff.1 hj).1
    exact ⟨_,ku j A' _ hj (List.getElem?_eq_getElem dO)⟩
   ·exact cD.VN hl lio (fun j A u h1 h2=>⟨_,ku j A u h1 h2⟩) c2 lO k 1 iN (fun j=>by rw [nk]) (fun j A hA=>DB os j (uW hn hA)) (by rw [uX hn];exact Nat.le_refl _)
  |box os=>
   obtain ⟨rn,vs,ty,h1,h2,h3,hl⟩:=h;obtain ⟨lcs,g1,g2⟩:=cD.cells os 0 _ hl;simp only [Nat.zero_add] at g1 g2;refine ⟨rn,lcs,fun j A hA=>g1 j A hA,fun c2 lO iN G8 nk hn=>⟨by rw [h1];rfl,by rw [Ko hn];exact Nat.le_refl _,fun cs _=>by rw [G8];exact h1⟩,fun cs Ao=>⟨h1,h2,vs,ty,h3,fun c2 lO iN nk hn => ?_⟩,fun A hA=>(by cases hA),fun A hA=>(by cases hA)⟩;simp only [eY,Option.some.injEq] at Ao;subst Ao;exact g2 c2 lO k 1 iN (fun j _=>by rw [nk]) (fun j A _ hA=>uW hn hA) (by rw [uX hn];exact Nat.le_refl _)
theorem Rel.Rx {w0:World} {mu:Mu} {c:Cz} {a:Act} {w:World} {L:List (Option AV)} {lc:Nat→Nat→Loc} (hb:FN w0 mu c w) (hd:a.defers=[]) (hL:EP c w lc a 0 L) (hA:∀p∈mu.an,VK L lc a p):∃c',Rel w0 mu c' (rp 0 L) a w:=by
 have hsl:∀k,∃q:Nat×(Nat→Loc),VM c w k ((L[k]?).getD none) (a.eval (.tmp k)) (lc k) q.1 q.2:=by
  intro k;obtain ⟨rn,lcs,h⟩:=Zo (c:=c) (w:=w) (k:=k) (lio:=lc k) (av:=(L[k]?).getD none) (u:=a.eval (.tmp k)) (fun v hv=>by
   have:=hL k v (by
    cases hq:L[k]? with
    |none=>rw [hq] at hv;cases hv
    |some o=>rw [hq] at hv;simp at hv;rw [hv])
   simpa using this)
  exact ⟨(rn,lcs),h⟩
 obtain ⟨q,hq⟩:=Classical.axiomOfChoice hsl;have hn:∀k,nth (rp 0 L) k=(L[k]?).map (eY k):=fun k=>by have:=Kl L 0 k;simpa using this
 have Zk:∀k sl,nth (rp 0 L) k=some sl→∃o,L[k]?=some o∧sl=eY k o∧nth (rp 0 L) k=some (eY k ((L[k]?).getD none))∧(L[k]?).getD none=o:=by
  intro k sl h;rw [hn] at h
  cases ho:L[k]? with
  |none=>rw [ho] at h;cases h
  |some o=>
   rw [ho] at h
   cases h
   refine ⟨o,rfl,rfl,?_,rfl⟩;rw [hn,ho];rfl
 let c':=c.ia VL (fun k=>(q k).1) (fun k=>(q k).2)
 have iN:∀b,c.ok b→c'.ok b:=fun b hb=>Cz.so.2 hb
 refine ⟨c',fun t => ?_,fun s sl cs hs G8 => ?_,fun s j sl A hs iy => ?_,fun b l hl => ?_,fun b dO hl=>hb.free b dO (by simpa [c',Cz.ia] using hl),hb.kept,hb.old,hd,fun p hp => ?_⟩
 ·cases hs:nth (rp 0 L) t with
  |none=>
   have:dI (rp 0 L) t=.one .bad:=by unfold dI;rw [hs]
   rw [this];trivial
  |some sl=>
   obtain ⟨o,h1,rfl,h3,h4⟩:=Zk t sl hs;have:dI (rp 0 L) t=(eY t ((L[t]?).getD none)).v:=by unfold dI;rw [h3]
   rw [this];exact (hq t).reg c' (rp 0 L) iN rfl rfl h3
 ·obtain ⟨o,h1,rfl,h3,h4⟩:=Zk s sl hs;rw [←h4] at G8;obtain ⟨g1,g2,vs,ty,g3,g4⟩:=(hq s).box cs G8;refine ⟨?_,vs,ty,g3,g4 c' (rp 0 L) iN rfl h3⟩;show (c.own (q s).1).map VL=_;rw [g2];rfl
 ·obtain ⟨o,h1,rfl,h3,h4⟩:=Zk s sl hs;rw [←h4] at iy;obtain ⟨v,hv⟩:=(hq s).arr j A iy;exact hv.arr rfl rfl
 ·simp only [c',Cz.ia,Option.map_eq_some_iff] at hl;obtain ⟨k,hk,e⟩:=hl;obtain ⟨h1,h2⟩:=hb.owned b k hk;refine ⟨h1,h2.imp (fun e2 => ?_) id⟩;subst e2;rw [←e];rfl
 ·have hf:=hA p hp
  cases p with
  |arr i j g W n l=>
   obtain ⟨rfl,hi,Ny⟩:=hf;have hs:nth (rp 0 L) i=some (eY i ((L[i]?).getD none)):=by rw [hn];simp [List.getElem?_eq_getElem hi]
   refine ⟨by rw [uX hs];exact Nat.le_refl _,fun A iy => ?_⟩;have h3:=uW hs iy
   cases ho:L[i]? with
   |none=>rw [ho] at h3;simp [eY,Sl.blank] at h3
   |some o=>cases o with
    |none=>rw [ho] at h3;simp [eY,Sl.blank] at h3
    |some av=>
     rcases Ny av ho with ⟨A0,rfl,h5⟩ | ⟨os,rfl,h5⟩
     case inr=>
      rw [ho] at h3;obtain ⟨e1,e2,e3⟩:=h5 A (DB os j h3);refine ⟨e1,e2,?_⟩;rw [←e3];have:=(hq i).dR os (by rw [ho];rfl);show (q i).2 j=lc i j;rw [this]
     rw [ho] at h3
     cases j with
     |zero=>
      simp [eY,nth] at h3;subst h3;obtain ⟨e1,e2,e3⟩:=h5 rfl;exact ⟨e1,e2,((hq i).io A0 (by rw [ho];rfl)).trans e3⟩
     |succ j=>simp [eY,nth] at h3
  |box i g rn=>
   obtain ⟨rfl,hi,Ny⟩:=hf;have hs:nth (rp 0 L) i=some (eY i ((L[i]?).getD none)):=by rw [hn];simp [List.getElem?_eq_getElem hi]
   refine ⟨by rw [Ko hs];exact Nat.le_refl _,fun cs Ao => ?_⟩;obtain ⟨sl,k1,k2,k3⟩:=j5 Ao;rw [hs] at k1;cases k1;obtain ⟨g1,_⟩:=(hq i).box cs k3;have xL:∃os,L[i]?=some (some (.box os)):=by
    cases ho:L[i]? with
    |none=>rw [ho] at k3;simp [eY,Sl.blank] at k3
    |some o=>cases o with
     |none=>rw [ho] at k3;simp [eY,Sl.blank] at k3
     |some av=>cases av with
      |val agg os=>rw [ho] at k3;cases agg<;>simp [eY] at k3
      |io A=>rw [ho] at k3;simp [eY] at k3
      |dR os=>rw [ho] at k3;simp [eY] at k3
      |box os=>exact ⟨os,rfl⟩
   obtain ⟨os,xL⟩:=xL;have:=Ny os xL;rw [this] at g1;injection g1 with g1;injection g1 with g1;injection g1 with g1;exact g1.symm
end Go.TM
