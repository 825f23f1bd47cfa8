/- A machine over trees: an evaluator of the code, and that what it finds is so; part 2. -/
import Derived.Test.YtlgnmloddedbaaaGreatTm1
import Derived.Laws.BytesString
import Derived.Tactics
set_option linter.unusedSimpArgs false
set_option linter.unusedVariables false
namespace Go.TM
open Go Go.RowKit
theorem Fw.grow {w0:World} {mu:Mu} {c:Cz} {st:St} {a:Act} {w:World} (h:Rel w0 mu c st a w) (o:Obj):Fw c st w c st (w.alloc o) where
 stays:=Bm w _ _ _ fun _ _ h=>h
 refs a' j g A' _ iS:=⟨A',iS,rfl,rfl,rfl,fun _=>⟨rfl,fun b oo cap nZ=>heap_alloc_old w _ b ((h.KZ (g:=g) iS).lt nZ)⟩⟩
 HI _ _ s7 _ hb:=⟨⟨s7,hb⟩,rfl⟩
 gA _:=Nat.le_refl _
 gB _:=Nat.le_refl _
 gE _:=Nat.le_refl _
theorem Rel.grow {w0:World} {mu:Mu} {c:Cz} {st:St} {a:Act} {w:World} (h:Rel w0 mu c st a w) (o:Obj):Rel w0 mu c st a (w.alloc o) where
 jy t:=(Fw.grow h o).vV (h.jy t)
 boxes s sl cs hs hb:=by
  have hb0:=h.boxes s sl cs hs hb;exact hb0.go (Fw.grow h o) rfl rfl (heap_alloc_old w _ _ (h.yU hb0.1))
 ca s j sl A hs hA:=(h.ca s j sl A hs hA).go (Fw.grow h o).stays rfl fun b hb=>⟨heap_alloc_old w _ b (h.yU hb),rfl⟩
 owned b l hb:=⟨Nat.lt_of_lt_of_le (h.owned b l hb).1 (by simp),(h.owned b l hb).2⟩
 free:=h.free
 kept:=⟨h.kept.1,h.kept.2.1,h.kept.2.2.1,Nat.le_trans h.kept.2.2.2 (by simp)⟩
 old k hk hm:=by
  rw [heap_alloc_old w _ k (Nat.lt_of_lt_of_le hk h.kept.2.2.2)];exact h.old k hk hm
 iC p hp:=(Fw.grow h o).iC (h.iC p hp)
 plain:=h.plain
theorem jf.ajM {c:Cz} {st:St} {w:World} {x:CV} {cs:List CV} {vs:List Value} (h:jf c st w (x::cs) vs):∃v l,vs=v::l∧rj c st w x v∧jf c st w cs l:=by
 obtain ⟨h1,h2⟩:=h
 cases vs with
 |nil=>simp at h1
 |cons v l=>exact ⟨v,l,rfl,h2 0 x v rfl rfl,by simpa using h1,fun i y u hy hu=>h2 (i+1) y u (by simpa using hy) (by simpa using hu)⟩
theorem aas {w:World} {ok:Nat→Prop} {b off:Nat} (x:aO .nil):fP w ok .nil b off x:=by unfold fP;trivial
theorem Ej {w:World} {ok:Nat→Prop} {t:Ty} {r:RT} {b off:Nat} {x:aO (.cons t r)}:fP w ok (.cons t r) b off x↔(∃v,w.cell? ⟨b,off,none⟩=some v∧eD w ok t v x.1)∧fP w ok r b (off+1) x.2:=by
 constructor
 ·intro h;unfold fP at h;exact h
 ·intro h;unfold fP;exact h
theorem qO {c:Cz} {st:St} {w w':World} {ok:Nat→Prop} (hs:lL w w' c.ok ok) {b:Nat}:(cs:List CV)→{r:RT}→{x:aO r}→gz cs=some ⟨r,x⟩→(vs:List Value)→(off:Nat)→jf c st w cs vs→(∀(i:Nat) v,vs[i]?=some v→w'.cell? ⟨b,off+i,none⟩=some v)→fP w' ok r b off x
 | [],r,x,h,vs,off,_,_=>by
  unfold gz at h
  cases h
  exact aas _
 |cx::cs,r,x,h,vs,off,hl,hc=>by
  obtain ⟨v,l,rfl,hx,Cm⟩:=hl.ajM;have h0:=hc 0 v rfl;rw [Nat.add_zero] at h0;have ic:∀(i:Nat) u,l[i]?=some u→w'.cell? ⟨b,off+1+i,none⟩=some u:=fun i u hu=>by
   have:=hc (i+1) u hu
   rwa [show off+(i+1)=off+1+i by omega] at this
  cases cx with
  |int k n=>
   unfold gz at h
   cases hq:gz cs with
   |none=>rw [hq] at h;cases h
   |some p=>
    obtain ⟨r0,x0⟩:=p;rw [hq] at h
    cases h
    have ih:=qO hs cs hq l (off+1) Cm ic;exact Ej.2 ⟨⟨v,h0,yS.2 hx⟩,ih⟩
  |bool n=>
   unfold gz at h
   cases hq:gz cs with
   |none=>rw [hq] at h;cases h
   |some p=>
    obtain ⟨r0,x0⟩:=p;rw [hq] at h
    cases h
    have ih:=qO hs cs hq l (off+1) Cm ic;exact Ej.2 ⟨⟨v,h0,Ck.2 hx⟩,ih⟩
  |str n=>
   unfold gz at h
   cases hq:gz cs with
   |none=>rw [hq] at h;cases h
   |some p=>
    obtain ⟨r0,x0⟩:=p;rw [hq] at h
    cases h
    have ih:=qO hs cs hq l (off+1) Cm ic;exact Ej.2 ⟨⟨v,h0,Ft.2 hx⟩,ih⟩
  |shr q xs=>
   unfold gz at h
   cases hq:gz cs with
   |none=>rw [hq] at h;cases h
   |some p=>
    obtain ⟨r0,x0⟩:=p;rw [hq] at h
    cases h
    have ih:=qO hs cs hq l (off+1) Cm ic;exact Ej.2 ⟨⟨v,h0,eD.stays hs _ _ _ hx⟩,ih⟩
  |_=>simp [gz] at h
def Cz.AH (c:Cz) (s:Nat):Cz:=
 { c with own:=fun k=>match c.own k with | some (.box t)=>if t=s then none else some (.box t) | l=>l }
theorem Cz.WV {c:Cz} {s b:Nat} (h:c.ok b):(c.AH s).ok b:=by
 unfold Cz.ok Cz.AH at *;simp [h]
theorem Cz.K5 {c:Cz} {s b:Nat} (h:c.own b=some (.box s)):(c.AH s).ok b:=by
 unfold Cz.ok Cz.AH;simp [h]
theorem Cz.H2 {c:Cz} {s b:Nat} {l:Lb} (h:c.own b=some l) (mn:l≠.box s):(c.AH s).own b=some l:=by
 unfold Cz.AH;simp only [h]
 cases l with
 |box t=>
  simp only;rw [if_neg]
  rintro rfl
  exact mn rfl
 |_=>rfl
theorem Cz.QB {c:Cz} {s b:Nat} {l:Lb} (h:(c.AH s).own b=some l):c.own b=some l:=by
 unfold Cz.AH at h;simp only at h
 cases hc:c.own b with
 |none=>simp [hc] at h
 |some l'=>cases l' with
  |box t=>
   simp only [hc] at h
   by_cases e:t=s
   ·simp [e] at h
   ·rw [if_neg e] at h;exact h
  |_=>simp [hc] at h;rw [h]
theorem xn (st:St) (b s:Nat):nth (ja st b) s=if s=b then (nth st s).map (fun x=>{ x with box:=none }) else nth st s:=by
 unfold ja;rw [lG]
theorem oZ (st:St) (b s:Nat):dR (ja st b) s=dR st s∧hU (ja st b) s=hU st s∧km (ja st b) s=km st s∧w9 (ja st b) s=w9 st s∧∀j g,cT (ja st b) s j g=cT st s j g:=by
 unfold dR hU km w9 cT;rw [xn]
 by_cases e:s=b
 ·rw [if_pos e]
  cases nth st s<;>simp
 ·rw [if_neg e];simp
theorem ME {st:St} {b s g:Nat} {cs:List CV} (h:gi (ja st b) s g=some cs):s≠b∧gi st s g=some cs:=by
 unfold gi at h ⊢;rw [xn] at h
 by_cases e:s=b
 ·rw [if_pos e] at h
  cases hx:nth st s with
  |none=>rw [hx] at h;cases h
  |some x=>
   rw [hx] at h;simp only [Option.map_some] at h
   cases hb:Nat.beq x.bg g<;>rw [hb] at h<;>cases h
 ·rw [if_neg e] at h;exact ⟨e,h⟩
theorem Fw.ja (c:Cz) (st:St) (w:World) (s:Nat):Fw c st w (c.AH s) (ja st s) w where
 stays:=⟨Nat.le_refl _,fun _ _ _=>rfl,fun _ _ h=>Cz.WV h⟩
 refs a' j' g A' _ iS:=⟨A',by rwa [(oZ st s a').2.2.2.2] at iS,rfl,rfl,rfl,fun _=>⟨rfl,fun _ _ _ _=>rfl⟩⟩
 HI b g s7 _ h:=⟨⟨s7,(ME h).2⟩,rfl⟩
 gA b:=by rw [(oZ st s b).2.1];exact Nat.le_refl _
 gB b:=by rw [(oZ st s b).2.2.1];exact Nat.le_refl _
 gE b:=by rw [(oZ st s b).2.2.2.1];exact Nat.le_refl _
theorem Rel.ja {w0:World} {mu:Mu} {c:Cz} {st:St} {a:Act} {w:World} (h:Rel w0 mu c st a w) (s:Nat):Rel w0 mu (c.AH s) (ja st s) a w where
 jy t:=by rw [(oZ st s t).1];exact (Fw.ja c st w s).vV (h.jy t)
 boxes b sl cs hs hb:=by
  rw [xn] at hs
  by_cases e:b=s
  ·rw [if_pos e] at hs
   cases hx:nth st b with
   |none=>rw [hx] at hs;cases hs
   |some x=>rw [hx] at hs;simp at hs;subst hs;cases hb
  ·rw [if_neg e] at hs;have h0:=h.boxes b sl cs hs hb;exact h0.go (Fw.ja c st w s) rfl (by rw [h0.1];exact Cz.H2 h0.1 (by intro e';injection e' with e';exact e e')) rfl
 ca b i sl A hs hb:=by
  rw [xn] at hs;have h0:fQ c w b i A:=by
   by_cases e:b=s
   ·rw [if_pos e] at hs
    cases hx:nth st b with
    |none=>rw [hx] at hs;cases hs
    |some x=>rw [hx] at hs;simp at hs;subst hs;exact h.ca b i x A hx hb
   ·rw [if_neg e] at hs;exact h.ca b i sl A hs hb
  exact h0.go (Fw.ja c st w s).stays rfl fun k h1=>⟨rfl,by rw [h1];exact Cz.H2 h1 (by intro e;cases e)⟩
 owned b l hb:=h.owned b l (Cz.QB hb)
 free b hb h1:=by
  cases hc:c.own b with
  |none=>exact h.free b hb hc
  |some l=>
   rcases (h.owned b l hc).2 with h2 | h2 | h2
   ·subst h2;unfold Cz.AH at h1;simp [hc] at h1
   ·omega
   ·exact .inl h2
 kept:=h.kept
 old:=h.old
 iC p hp:=(Fw.ja c st w s).iC (h.iC p hp)
 plain:=h.plain
theorem Oc {w:World} {b:Nat} {vs:Array Value} {ty:TypeId} (h:w.heap[b]?=some (.cells vs ty (0,0))) {i:Nat} {v:Value} (hv:vs.toList[i]?=some v):w.cell? ⟨b,i,none⟩=some v:=by
 unfold World.cell?;simp [h];simpa using hv
theorem Fu (st:St) (b g:Nat) (r:RT) (x:aO r):(s:Nat)→nth (rh st b g r x) s=(nth st s).map fun z=>{ z with v:=rnV b g r x z.v }:=by
 unfold rh
 induction st with
 |nil=>intro s;rfl
 |cons y st ih=>intro s;cases s with
  |zero=>rfl
  |succ s=>exact ih s
theorem sv (st:St) (b g:Nat) (r:RT) (x:aO r) (s:Nat):dR (rh st b g r x) s=rnV b g r x (dR st s)∧hU (rh st b g r x) s=hU st s∧km (rh st b g r x) s=km st s∧w9 (rh st b g r x) s=w9 st s∧(∀j g',cT (rh st b g r x) s j g'=cT st s j g')∧∀g',gi (rh st b g r x) s g'=gi st s g':=by
 unfold dR hU km w9 cT gi;rw [Fu]
 cases nth st s with
 |none=>exact ⟨rfl,rfl,rfl,rfl,fun _ _=>rfl,fun _=>rfl⟩
 |some z=>exact ⟨rfl,rfl,rfl,rfl,fun _ _=>rfl,fun _=>rfl⟩
theorem Fw.rh (c:Cz) (st:St) (w:World) (b g:Nat) (r:RT) (x:aO r):Fw c st w c (rh st b g r x) w where
 stays:=⟨Nat.le_refl _,fun _ _ _=>rfl,fun _ _ h=>h⟩
 refs a' j' g' A' _ iS:=⟨A',by rwa [(sv st b g r x a').2.2.2.2.1] at iS,rfl,rfl,rfl,fun _=>⟨rfl,fun _ _ _ _=>rfl⟩⟩
 HI b' g' s7 _ h:=⟨⟨s7,by rwa [(sv st b g r x b').2.2.2.2.2] at h⟩,rfl⟩
 gA s:=by rw [(sv st b g r x s).2.1];exact Nat.le_refl _
 gB s:=by rw [(sv st b g r x s).2.2.1];exact Nat.le_refl _
 gE s:=by rw [(sv st b g r x s).2.2.2.1];exact Nat.le_refl _
theorem Rel.rh {w0:World} {mu:Mu} {c:Cz} {st:St} {a:Act} {w:World} (h:Rel w0 mu c st a w) {b g:Nat} {r:RT} {x:aO r} (hp:∀t off,dR st t=.one (.ptr b g off)→rj c st w (.oe r x off) (a.eval (.tmp t))):Rel w0 mu c (rh st b g r x) a w where
 jy t:=by
  rw [(sv st b g r x t).1];have h0:=(Fw.rh c st w b g r x).vV (h.jy t)
  cases hv:dR st t with
  |one cv=>cases cv with
   |ptr b' g' off=>
    rw [hv] at h0;show iB c (TM.rh st b g r x) w (bif Nat.beq b' b&&Nat.beq g' g then .one (.oe r x off) else .one (.ptr b' g' off)) (a.eval (.tmp t))
    cases hb:Nat.beq b' b&&Nat.beq g' g with
    |false=>exact h0
    |true=>
     rw [Bool.and_eq_true] at hb;have e1:=Nat.eq_of_beq_eq_true hb.1;have e2:=Nat.eq_of_beq_eq_true hb.2;subst e1 e2;exact hp t off hv
   |_=>rw [hv] at h0;exact h0
  |agg _=>rw [hv] at h0;exact h0
  |rb _=>rw [hv] at h0;exact h0
 boxes s sl cs hs hb:=by
  rw [Fu] at hs;obtain ⟨z,hz,rfl⟩:=Option.map_eq_some_iff.1 hs;have h0:=h.boxes s z cs hz hb;exact h0.go (Fw.rh c st w b g r x) rfl (by rw [h0.1]) rfl
 ca s j sl A hs hA:=by
  rw [Fu] at hs;obtain ⟨z,hz,rfl⟩:=Option.map_eq_some_iff.1 hs;exact h.ca s j z A hz hA
 owned:=h.owned
 free:=h.free
 kept:=h.kept
 old:=h.old
 plain:=h.plain
 iC p hp:=(Fw.rh c st w b g r x).iC (h.iC p hp)
theorem aat {w0:World} {mu:Mu} {c:Cz} {st bV:St} {a:Act} {w:World} (h:Rel w0 mu c st a w) {t:Nat} {r:RT} {ys:List (aO r)} (hc:aaf st t=some (bV,⟨r,ys⟩)) :
  ∃c',Rel w0 mu c' bV a w∧Fw c st w c' bV w∧KY w c'.ok r (a.eval (.tmp t)) ys:=by
 have hx:=h.jy t;unfold aaf at hc
 split at hc
 ·rename_i r' x' off e;obtain ⟨h1,hc⟩:=bM hc;have h1:=Nat.eq_of_beq_eq_true h1;subst h1
  cases hc
  rw [e] at hx;obtain ⟨b,o,e1,e2,e3,e4⟩:=hx;refine ⟨c,h,Fw.refl c st w,b,o,e1,e2,e3,fun y hy => ?_⟩;simp at hy;subst hy;exact e4
 ·rename_i r' xs off e;obtain ⟨h1,hc⟩:=bM hc;have h1:=Nat.eq_of_beq_eq_true h1;subst h1
  cases hc
  rw [e] at hx;obtain ⟨b,o,e1,e2,e3,e4⟩:=hx;exact ⟨c,h,Fw.refl c st w,b,o,e1,e2,e3,e4⟩
 ·rename_i b g off e
  cases hb:gi st b g with
  |none=>rw [hb] at hc;cases hc
  |some cs=>
   rw [hb] at hc;simp only at hc;obtain ⟨h1,hc⟩:=bM hc;have h1:=Nat.eq_of_beq_eq_true h1;subst h1
   cases hp:gz cs with
   |none=>rw [hp] at hc;cases hc
   |some p=>
    obtain ⟨r0,x0⟩:=p;rw [hp] at hc
    cases hc
    rw [e] at hx;have hu:=hx.2.2 cs hb;obtain ⟨sl,HJ,TR,HK⟩:=ko hb;obtain ⟨ho,vs,ty,hh,hl⟩:=h.boxes b sl cs HJ HK;have HL:fP w (c.AH b).ok r (c.bx b) 0 x0:=by
     refine qO (Fw.ja c st w b).stays cs hp vs.toList 0 hl fun i v hv => ?_
     rw [Nat.zero_add];exact Oc hh hv
    refine ⟨_,(h.ja b).rh (fun t' ayg hv => ?_),(Fw.ja c st w b).trans (Fw.rh _ _ w _ _ _ _),c.bx b,0,hu,h.yU ho,Cz.K5 ho,fun y hy => ?_⟩
    ·rw [(oZ st b t').1] at hv;have h2:=h.jy t';rw [hv] at h2;have hu2:=h2.2.2 cs hb;exact ⟨c.bx b,0,by rw [Nat.zero_add];exact hu2,h.yU ho,Cz.K5 ho,HL⟩
    ·simp at hy;subst hy;exact HL
 ·cases hc
theorem Od {w0:World} {mu:Mu} {a:Act} {w:World}:(l:List Operand)→{c:Cz}→{st bV:St}→Rel w0 mu c st a w→{rs:RT}→{x:aO rs}→CX st l=some (bV,⟨rs,x⟩)→
  ∃c',Rel w0 mu c' bV a w∧Fw c st w c' bV w∧yT w c'.ok rs (l.map a.eval) x
 | [],c,st,bV,h,rs,x,hc=>by
  unfold CX at hc
  cases hc
  exact ⟨c,h,Fw.refl c st w,rfl⟩
 |.tmp t::l,c,st,bV,h,rs,x,hc=>by
  unfold CX at hc
  cases h1:aaf st t with
  |none=>rw [h1] at hc;cases hc
  |some p=>
   obtain ⟨HP,r,y⟩:=p;rw [h1] at hc;simp only at hc
   cases h2:CX HP l with
   |none=>rw [h2] at hc;cases hc
   |some p=>
    obtain ⟨mq,rs0,ys⟩:=p;rw [h2] at hc
    cases hc
    obtain ⟨c1,k1,k2,k3⟩:=aat h h1;obtain ⟨c2,g1,g2,g3⟩:=Od l k1 h2;exact ⟨c2,g1,k2.trans g2,_,_,rfl,k3.stays g2.stays,g3⟩
 |.const _::_,_,_,_,_,_,_,hc=>by simp [CX] at hc
 |.func _::_,_,_,_,_,_,_,hc=>by simp [CX] at hc
 |.global _::_,_,_,_,_,_,_,hc=>by simp [CX] at hc
theorem Oe {c:Cz} {st:St} {w:World}:(rs:RT)→(vs:List Value)→(x:aO rs)→yT w c.ok rs vs x→(AF rs x).length=vs.length∧∀(k:Nat) v u,(AF rs x)[k]?=some v→vs[k]?=some u→iB c st w v u
 |.nil,vs,x,h=>by
  subst h;exact ⟨rfl,fun k v u hv=>by simp [AF] at hv⟩
 |.cons (.sl r) rs,vs,x,h=>by
  obtain ⟨v0,l,rfl,⟨b,o,e1,e2,e3,e4⟩,h2⟩:=h;obtain ⟨g1,g2⟩:=Oe (c:=c) (st:=st) rs l x.2 h2;refine ⟨by simp [AF,g1],fun k v u hv hu => ?_⟩
  cases k with
  |zero=>
   simp only [AF,List.getElem?_cons_zero,Option.some.injEq] at hv hu;subst hv hu;exact ⟨b,o,by rw [Nat.add_zero];exact e1,e2,e3,e4⟩
  |succ k=>exact g2 k v u (by simpa [AF] using hv) (by simpa using hu)
 |.cons (.int _) _,_,_,h=>h.elim
 |.cons .bool _,_,_,h=>h.elim
 |.cons .str _,_,_,h=>h.elim
end Go.TM
namespace Go.TM
open Go Go.RowKit
def yX (P:Program) (T:pA):Prop:=
 ∀t,T.eq t=true→∀(c:Cz) (st:St) (w:World) (l m:List CV) (us vs:Array Value) (b:Bool) (op:BinOp) (ox oy:Operand),T.fits t l=true→re l m=some b→
  jf c st w l us.toList→jf c st w m vs.toList→∀w':World,(eqGuard op t ox oy (.agg us) (.agg vs)).run P w'=.ok () w'∧(Op.equal t (.agg us) (.agg vs)).run P w'=.ok b w'
def C0 (P:Program) (w0:World) (mu:Mu) (bV:St) (o:Oper) (a:Act) (w:World) (kp:Bool):Prop:=
 ∀Q:Exit→Act→World→Prop,o.wp P a w (fun a' w'=>(∃c',Rel w0 mu c' bV a' w'∧a'.tmps.size=a.tmps.size)∧(kp=true→lM w w')) Q
theorem v7 (a:Act) (d:Option Tmp) (v:Value):(a.put d v).tmps.size=a.tmps.size:=by
 cases d<;>simp [Act.put]
theorem yY {P:Program} {w0:World} {mu:Mu} {c':Cz} {bV:St} {o:Oper} {a:Act} {w w':World} {v:Value} {kp:Bool} (hr:(execOp a.eval o).run P w=.ok (.value v) w') (h:Rel w0 mu c' bV (a.put o.dst v) w') (hk:kp=true→lM w w') :
  C0 P w0 mu bV o a w kp:=by
 intro Q;unfold Oper.wp;rw [hr];exact ⟨⟨c',h,v7 a _ _⟩,hk⟩
theorem v8 {P:Program} {s:Sem Value} {w w':World} {v:Value} (h:s.run P w=.ok v w'):(do pure (Next.value (←s)):Sem Next).run P w=.ok (.value v) w':=by
 simp [Sem.run_bind,h]
theorem Of {w0:World} {mu:Mu} {c:Cz} {st:St} {a:Act} {w:World} (h:Rel w0 mu c st a w) (parts:Array (Nat×Operand)) :
  tF c st w (parts.toList.map fun p=>(p.1,qM st p.2)) (parts.map fun (i,x)=>(i,a.eval x)).toList:=by
 refine ⟨by simp,fun i p u hp hu => ?_⟩;simp only [List.getElem?_map,Array.toList_map] at hp hu
 cases hq:parts.toList[i]? with
 |none=>simp [hq] at hp
 |some q=>
  simp only [hq,Option.map_some,Option.some.injEq] at hp hu;subst hp hu;exact ⟨rfl,cY h q.2⟩
theorem abQ {w0:World} {mu:Mu} {c:Cz} {st:St} {a:Act} {w:World} (h:Rel w0 mu c st a w) (x:Option Operand):Ob c st w (x.map (qM st)) (x.map a.eval):=by
 cases x with
 |none=>rfl
 |some x=>exact ⟨_,rfl,cY h x⟩
theorem T2 {P:Program} {w:World} {ok:Nat→Prop} {u:Value} {ys:List (aO (.cons (.int .u8) .nil))} (h:RdS w ok (.cons (.int .u8) .nil) u ys):(Conv.bytesToString u).run P w=.ok (.string (bytesOf ys)) w:=by
 rcases h with ⟨rfl,rfl⟩ | ⟨a,cap,rfl,hs,hr⟩
 ·rfl
 ·have key:=run_bytesToString (P:=P) w a ys.length cap (ys.map Sm) (by
   have h1:((ys.map Sm).map (Value.int .u8)).length=ys.length:=by simp
   have h2:=run_loadCells_list (P:=P) (w:=w) a ((ys.map Sm).map (Value.int .u8)) (by
    intro j v hv;rw [List.map_map,List.getElem?_map] at hv
    cases hy:ys[j]? with
    |none=>rw [hy] at hv;cases hv
    |some y=>
     rw [hy] at hv;simp only [Option.map_some,Option.some.injEq,Function.comp] at hv;subst hv;have h3:=hr j y hy;unfold fP at h3;obtain ⟨⟨v,h4,h5⟩,_⟩:=h3;have h5:=yS.1 h5;subst h5;have mn:ys≠[]:=by intro e;rw [e] at hy;simp at hy
     have Kj:=hs mn;have e:a.add j=⟨a.block,a.off+j*(RT.cons (.int .u8) .nil).width,none⟩:=by
      simp only [RT.width,Nat.zero_add,Nat.mul_one];unfold Addr.add
      split
      ·rename_i h0;subst h0;obtain ⟨b,o,s⟩:=a;simp at Kj;subst Kj;rfl
      ·rfl
     rw [e];exact h4)
   rw [h1] at h2;exact h2)
  rw [key]
  congr 2
  unfold bytesOf;rw [List.foldl_map]
def Op.QC:Op→Bool
 |.call { callee:=.value (.func _),.. }=>true
 |.call { callee:=.value (.tmp _),.. }=>true
 |_=>false
theorem Og {c:Cz} {st:St} {w:World} {x:V} {v:Value} (h:D6 c st w x v):iB c st w x v:=by
 cases x with
 |one _=>exact h
 |agg _=>exact h
 |rb _=>exact h.elim
theorem Sv {P:Program} {T:pA} (hT:j7 P T) (hE:yX P T) {S:nF} {w0:World} {mu:Mu} {c:Cz} {st:St} {a:Act} {w:World} (h:Rel w0 mu c st a w) {o:Oper} (hk:kindOk S st o .any=true)
  {bV:St} (hv:(Sn T S st o).val=some bV) (hd:∀k,o.dst=some k→k<a.tmps.size):∃v,(∀w':World,(execOp a.eval o).run P w'=.ok (.value v) w')∧Rel w0 mu c bV (a.put o.dst v) w:=by
 have one:∀(v:Value),Rel w0 mu c bV (a.put o.dst v) w→(∀w':World,(execOp a.eval o).run P w'=.ok (.value v) w')→∃v,(∀w':World,(execOp a.eval o).run P w'=.ok (.value v) w')∧Rel w0 mu c bV (a.put o.dst v) w:=
  fun v h1 h2=>⟨v,h2,h1⟩
 unfold Sn at hv;unfold kindOk at hk
 cases ho:o.op with
 |move x=>
  simp only [ho,N.val,Option.some.injEq] at hv;subst hv;exact one _ (h.bW (cY h x) hd) (fun w'=>by simp [execOp,ho])
 |assign x=>
  simp only [ho,N.val,Option.some.injEq] at hv;subst hv;exact one _ (h.bW (cY h x) hd) (fun w'=>by simp [execOp,ho])
 |pick x y z=>
  simp only [ho] at hv;have hx:=cY h x
  cases hq:qM st x with
  |agg _=>simp [hq,N.val] at hv
  |rb _=>simp [hq,N.val] at hv
  |one cx=>cases cx with
   |bool b=>
    rw [hq] at hx;have e:a.eval x=.bool b:=hx;simp only [hq] at hv;rcases yg hv with ⟨hb,HU⟩ | ⟨hb,HU⟩
    ·simp only [N.val,Option.some.injEq] at HU;rw [←HU] at one ⊢;subst hb;exact one _ (h.bW (cY h y) hd) (fun w'=>by simp [execOp,ho,e,asBool])
    ·simp only [N.val,Option.some.injEq] at HU;rw [←HU] at one ⊢;subst hb;exact one _ (h.bW (cY h z) hd) (fun w'=>by simp [execOp,ho,e,asBool])
   |_=>simp [hq,N.val] at hv
 |build t parts=>
  simp only [ho] at hv
  cases hr:T.row t with
  |none=>simp [hr,N.val] at hv
  |some r=>cases hg:T.agg t with
   |false=>simp [hr,hg,N.val] at hv
   |true=>
    simp only [hr,hg] at hv
    cases hfc:ss T t (sq r) (parts.toList.map fun p=>(p.1,qM st p.2)) with
    |none=>simp [hfc,N.val] at hv
    |some cs=>
     simp only [hfc,N.val,Option.some.injEq] at hv;subst hv;obtain ⟨v,h1,h2⟩:=WR hT h hr hg (Of h parts) hfc hd;exact one v (h2) (fun w'=>by simp only [execOp,ho];exact v8 (h1 w'))
 |nilCheck x=>
  simp only [ho] at hv;have hx:=cY h x
  cases hq:qM st x with
  |agg _=>simp [hq,N.val] at hv
  |rb _=>simp [hq,N.val] at hv
  |one cx=>cases cx with
   |ptr b g off=>
    rw [hq] at hx;simp only [hq] at hv
    cases HQ:gi st b g with
    |none=>simp [HQ,N.val] at hv
    |some cs=>
     simp only [HQ,N.val,Option.some.injEq] at hv;subst hv;have e:=hx.2.2 cs HQ;exact one _ (h.bW (v:=.one (.ptr b g off)) hx hd) (fun w'=>by simp [execOp,ho,e])
   |N1 a' j g i off=>
    rw [hq] at hx;simp only [hq] at hv
    cases hA:cT st a' j g with
    |none=>simp [hA,N.val] at hv
    |some A=>
     simp only [hA,N.val,Option.some.injEq] at hv;subst hv;obtain ⟨_,b,o',cap,_,e⟩:=hx.2.2 A hA;exact one _ (h.bW (v:=.one (.N1 a' j g i off)) hx hd) (fun w'=>by simp [execOp,ho,e])
   |_=>simp [hq,N.val] at hv
 |binOp op t x y t2=>
  simp only [ho] at hv;obtain ⟨v,h1,h2⟩:=aaq hT h (fun t ht l m us vs b op ox oy=>hE t ht c st w l m us vs b op ox oy) (ox:=x) (oy:=y) (cY h x) (cY h y) hv hd;exact one v (h2) (fun w'=>by simp only [execOp,ho];exact v8 (h1 w'))
 |unOp op t x=>
  cases op with
  |not=>
   simp only [ho] at hv;have hx:=cY h x
   cases hq:qM st x with
   |agg _=>simp [hq,N.val] at hv
   |rb _=>simp [hq,N.val] at hv
   |one cx=>cases cx with
    |bool b=>
     rw [hq] at hx;have e:a.eval x=.bool b:=hx;simp only [hq,N.val,Option.some.injEq] at hv;subst hv;exact one (.bool (!b)) (h.bW (v:=.one (.bool (!b))) rfl hd) (fun w'=>by simp [execOp,ho,e,Op.unary])
    |_=>simp [hq,N.val] at hv
  |_=>simp [ho,N.val] at hv
 |convert t1 t2 x=>
  simp only [ho] at hv;have hx:=cY h x
  split at hv
  ·rename_i k1 k2 k n h1 h2 hq;rw [hq] at hx;have e:a.eval x=.int k n:=hx;simp only [N.val,Option.some.injEq] at hv;subst hv;obtain ⟨d1,g1,_⟩:=hT.kind _ _ h1;obtain ⟨d2,g2,e2⟩:=hT.kind _ _ h2;simp only [descOf] at e2;subst e2;refine one (.int k2 (k2.wrap n)) (h.bW (v:=.one (.int k2 (k2.wrap n))) rfl hd) (fun w' => ?_);simp only [execOp,ho];refine v8 ?_;simp [convert,run_underlying g1,run_underlying g2,e,Conv.intToInt]
  ·rename_i b h1 h2 hq;rw [hq] at hx;have e:a.eval x=.string b:=hx;simp only [N.val,Option.some.injEq] at hv;subst hv;obtain ⟨d1,g1,e1⟩:=hT.kind _ _ h1;obtain ⟨d2,g2,e2⟩:=hT.kind _ _ h2;simp only [descOf] at e2 e1;subst e2 e1;refine one (.string b) (h.bW (v:=.one (.str b)) rfl hd) (fun w' => ?_);simp only [execOp,ho];refine v8 ?_;simp [convert,run_underlying g1,run_underlying g2,e]
  ·rename_i cx _ _ hq;rw [ho] at hk;simp only [hq] at hk
   split at hv
   ·cases cx<;>first | (simp [pW,N.val] at hv;done) | (simp at hk;done)
   ·simp [N.val] at hv
  ·simp [N.val] at hv
 |slice t x lo hi mx=>
  cases mx with
  |some _=>simp [ho,N.val] at hv
  |none=>
   simp only [ho] at hv;obtain ⟨v,h1,h2⟩:=TZ hT h (cY h x) (abQ h lo) (abQ h hi) hv hd;exact one v (h2) (fun w'=>by simp only [execOp,ho];exact v8 (h1 w'))
 |fieldAddr t x f=>
  simp only [ho] at hv;have hx:=cY h x;have place:∀(b q k:Nat),T.off t f=some k→a.eval x=.pointer (some ⟨b,q,none⟩)→∀w':World,(execOp a.eval o).run P w'=.ok (.value (.pointer (some ⟨b,q+k,none⟩))) w':=by
   intro b q k hk e w';obtain ⟨fs,K0,n,g1,g2,g3,g4⟩:=hT.off t f k hk
   cases hi:P.info? K0.type with
   |none=>simp [hi] at g4
   |some i=>
    simp only [hi,Option.map_some,Option.some.injEq] at g4;simp only [execOp,ho];refine v8 ?_;subst g3;simp [Instr.fieldAt,run_underlying g1,g2,e,Instr.sureAddr,fieldPlace,sizeOf,typeInfo,hi,g4,Addr.add]
  split at hv
  ·rename_i b g off k hq hk;rw [hq] at hx
   cases HQ:gi st b g with
   |none=>simp [HQ,N.val] at hv
   |some cs=>
    simp only [HQ,N.val,Option.some.injEq] at hv;subst hv;have e:=hx.2.2 cs HQ;refine one (.pointer (some ⟨c.bx b,off+k,none⟩)) (h.bW (v:=.one (.ptr b g (off+k))) ⟨rfl,hx.2.1,fun s7 Qs=>rfl⟩ hd) (place _ _ k hk e)
  ·rename_i a' j g i off k hq hk;rw [hq] at hx
   cases hA:cT st a' j g with
   |none=>simp [hA,N.val] at hv
   |some A=>
    simp only [hA,N.val,Option.some.injEq] at hv;subst hv;obtain ⟨hi,b,o',cap,hl,e⟩:=hx.2.2 A hA;refine one (.pointer (some ⟨b,o'+i*A.r.width+off+k,none⟩)) (h.bW (v:=.one (.N1 a' j g i (off+k))) ⟨rfl,hx.2.1,fun A' iS => ?_⟩ hd) (place _ _ k hk e);rw [hA] at iS
    cases iS
    exact ⟨hi,b,o',cap,hl,by rw [Nat.add_assoc]⟩
  ·rename_i r y off k hq hk;rw [hq] at hx;simp only [N.val,Option.some.injEq] at hv;subst hv;obtain ⟨b,o',e,h1,h2,h3⟩:=hx;exact one (.pointer (some ⟨b,o'+off+k,none⟩)) (h.bW (v:=.one (.oe r y (off+k))) ⟨b,o',by rw [Nat.add_assoc],h1,h2,h3⟩ hd) (place _ _ k hk e)
  ·rename_i r ys off k hq hk;rw [hq] at hx;simp only [N.val,Option.some.injEq] at hv;subst hv;obtain ⟨b,o',e,h1,h2,h3⟩:=hx;exact one (.pointer (some ⟨b,o'+off+k,none⟩)) (h.bW (v:=.one (.yc r ys (off+k))) ⟨b,o',by rw [Nat.add_assoc],h1,h2,h3⟩ hd) (place _ _ k hk e)
  ·simp [N.val] at hv
 |indexAddr t x i=>
  simp only [ho] at hv;obtain ⟨v,h1,h2⟩:=TW hT h (cY h x) (cY h i) hv hd;exact one v (h2) (fun w'=>by simp only [execOp,ho];exact v8 (h1 w'))
 |index t x i=>
  simp only [ho] at hv;have hx:=cY h x;have hi:=cY h i
  split at hv
  ·rename_i s k n h1 WW N8;rw [WW] at hx;rw [N8] at hi;have e1:a.eval x=.string s:=hx;have e2:a.eval i=.int k n:=hi;obtain ⟨Qu,hv⟩:=j8 hv;obtain ⟨hn1,hv⟩:=j8 hv;have Qu:=of_decide_eq_true Qu;have hn1:=of_decide_eq_true hn1;simp only [N.val,Option.some.injEq] at hv;subst hv;obtain ⟨d1,g1,e3⟩:=hT.kind _ _ h1;simp only [descOf] at e3;subst e3;have dB:n.toNat<s.size:=by omega
   have hb:s[n.toNat]?=some s[n.toNat]:=getElem?_pos s n.toNat dB;refine one (.int .u8 (Mr s n)) (h.bW (v:=.one (.int .u8 (Mr s n))) rfl hd) (fun w' => ?_);simp only [execOp,ho];refine v8 ?_;simp [Instr.index,e1,e2,asIntOf,run_underlying g1,Qu,hb,Mr]
  ·simp [N.val] at hv
 |field t x f=>
  simp only [ho] at hv;have hx:=cY h x
  cases hq:qM st x with
  |one _=>simp [hq,N.val] at hv
  |rb _=>simp [hq,N.val] at hv
  |agg cs=>
   rw [hq] at hx;simp only [hq] at hv
   cases Ka:T.off t f with
   |none=>simp [Ka,N.val] at hv
   |some k=>
    simp only [Ka] at hv;obtain ⟨h1,hv⟩:=jK hv
    cases hn:nth cs k with
    |none=>simp [hn,N.val] at hv
    |some u=>
     simp only [hn,N.val,Option.some.injEq] at hv;subst hv;obtain ⟨vs,e,hl,he⟩:=hx;rw [og] at hn;have dB:k<vs.size:=by rw [←Array.length_toList,←hl];exact (List.getElem?_eq_some_iff.1 hn).1
     have hg:vs[k]?=some vs[k]:=Array.getElem?_eq_getElem dB;obtain ⟨fs,K0,d1,g1,g2,g3,g4⟩:=hT.one t f h1;obtain ⟨fs',ayi,_,g1',g2',g5,_⟩:=hT.off t f k Ka;rw [g1] at g1';injection g1' with g1';injection g1' with g1';subst g1';rw [g2] at g2';injection g2' with g2';subst g2';refine one vs[k] (h.bW (v:=.one u) (he k u _ hn (by rw [Array.getElem?_toList];exact hg)) hd) (fun w' => ?_);simp only [execOp,ho];refine v8 ?_;have acS:(isAgg K0.type).run P w'=.ok false w':=by
      unfold isAgg;rw [Sem.run_bind,run_underlying g3 w']
      cases d1<;>simp_all [TypeDesc.isRow]
     simp [Instr.field,e,run_underlying g1,g2,part,asAgg,acS,g5,hg]
 |extract t i=>
  simp only [ho] at hv;have hx:=cY h t
  cases hq:qM st t with
  |one _=>simp [hq,N.val] at hv
  |agg _=>simp [hq,N.val] at hv
  |rb vs=>
   rw [hq] at hx;simp only [hq] at hv
   cases hn:nth vs i with
   |none=>simp [hn,N.val] at hv
   |some u=>
    simp only [hn,N.val,Option.some.injEq] at hv;subst hv;obtain ⟨us,e,hl,he⟩:=hx;rw [og] at hn;have dB:i<us.size:=by rw [←hl];exact (List.getElem?_eq_some_iff.1 hn).1
    have hg:us[i]?=some us[i]:=Array.getElem?_eq_getElem dB;refine one us[i] (h.bW (Og (he i u _ hn hg)) hd) (fun w' => ?_);simp only [execOp,ho];refine v8 ?_;simp [Instr.extract,e,hg]
 |call cl=>
  obtain ⟨callee,args,Wl⟩:=cl
  cases callee with
  |invoke r n=>simp [ho,N.val] at hv
  |value x=>
   cases x with
   |func f=>simp [ho] at hk
   |tmp f=>simp [ho] at hk
   |_=>simp [ho,N.val] at hv
  |builtin b=>
   have hx:=fun x=>cY h x
   simp only [ho] at hv;have Sw:∀x y,args.toList=[x,y]→args = #[x,y]:=fun x y e=>by rw [←Array.toArray_toList (xs:=args),e]
   split at hv
   ·rename_i x t ha ht;have ha:args = #[x]:=by rw [←Array.toArray_toList (xs:=args),ha]
    have ht:Wl = #[t]:=by rw [←Array.toArray_toList (xs:=Wl),ht]
    subst ha ht;obtain ⟨v,h1,h2⟩:=aar (ty:=o.type) hT h (cY h x) hv hd;exact one v (h2) (fun w'=>by simp only [execOp,ho];simp [resolve,invoke,builtin,Sem.run_bind,h1 w'])
   ·rename_i x y t u ha ht;simp [ho] at hk
   ·rename_i ts x y ha;have ha:=Sw x y ha;subst ha
    split at hv
    ·rename_i k p l q WW N8;have e1:=cY h x;have e2:=cY h y;rw [WW] at e1;rw [N8] at e2;have e1:a.eval x=.int k p:=e1;have e2:a.eval y=.int l q:=e2;simp only [N.val,Option.some.injEq] at hv;subst hv;exact one _ (h.bW (v:=.one (.int k (if q<p then q else p))) (u:=.int k (if q<p then q else p)) rfl hd) (fun w'=>by simp only [execOp,ho];simp [resolve,invoke,builtin,Sem.run_bind,Builtin.min_,Builtin.min2,e1,e2])
    ·simp [N.val] at hv
   ·rename_i ts x y ha;have ha:=Sw x y ha;subst ha
    split at hv
    ·rename_i k p l q WW N8;have e1:=cY h x;have e2:=cY h y;rw [WW] at e1;rw [N8] at e2;have e1:a.eval x=.int k p:=e1;have e2:a.eval y=.int l q:=e2;simp only [N.val,Option.some.injEq] at hv;subst hv;exact one _ (h.bW (v:=.one (.int k (if q>p then q else p))) (u:=.int k (if q>p then q else p)) rfl hd) (fun w'=>by simp only [execOp,ho];simp [resolve,invoke,builtin,Sem.run_bind,Builtin.max_,Builtin.max2,e1,e2])
    ·simp [N.val] at hv
   ·rename_i ts x y z ha;have ha:args = #[x,y,z]:=by rw [←Array.toArray_toList (xs:=args),ha]
    subst ha
    split at hv
    ·rename_i k p l q m s WW N8 hq3;have e1:=cY h x;have e2:=cY h y;have e3:=cY h z;rw [WW] at e1;rw [N8] at e2;rw [hq3] at e3;have e1:a.eval x=.int k p:=e1;have e2:a.eval y=.int l q:=e2;have e3:a.eval z=.int m s:=e3;simp only [N.val,Option.some.injEq] at hv;subst hv;exact one _ (h.bW (v:=.one (.int k (if s<(if q<p then q else p) then s else (if q<p then q else p)))) (u:=.int k (if s<(if q<p then q else p) then s else (if q<p then q else p))) rfl hd) (fun w'=>by simp only [execOp,ho];simp [resolve,invoke,builtin,Sem.run_bind,Builtin.min_,Builtin.min2,e1,e2,e3])
    ·simp [N.val] at hv
   ·simp [ho] at hk
   ·simp [N.val] at hv
 |_=>simp [ho] at hk
theorem ac7 {P:Program} {T:pA} (hT:j7 P T) (hE:yX P T) {S:nF} {w0:World} {mu:Mu} {c:Cz} {st:St} {a:Act} {w:World} (h:Rel w0 mu c st a w) {o:Oper} (hf:Op.QC o.op=false)
  {bV:St} (hv:(Sn T S st o).val=some bV) (hd:∀k,o.dst=some k→k<a.tmps.size):C0 P w0 mu bV o a w (kindOk S st o .one):=by
 by_cases hp:kindOk S st o .any=true
 ·obtain ⟨v,h1,h2⟩:=Sv hT hE h hp hv hd;exact yY (h1 w) h2 (fun _=>lM.refl w)
 have one:∀(v:Value) (w':World),(∃c',Rel w0 mu c' bV (a.put o.dst v) w')→lM w w'→(execOp a.eval o).run P w=.ok (.value v) w'→C0 P w0 mu bV o a w (kindOk S st o .one):=
  fun v w' ⟨c',h'⟩ hk hr=>yY hr h' (fun _=>hk)
 unfold kindOk at hp;unfold Sn at hv
 cases ho:o.op with
 |alloc t=>
  simp only [ho] at hv
  cases hr:T.row t with
  |none=>simp [hr,N.val] at hv
  |some r=>
   simp only [hr] at hv;obtain ⟨k,s0,hk,nG,rfl⟩:=Gu hv;obtain ⟨i,z,hi,hz,MB⟩:=hT.row t r hr;refine one _ _ ⟨_,hk▸h.lh (ty:=t) nG (hd k hk) (Bq MB)⟩ (lM.alloc _ _) ?_;simp [execOp,ho,Instr.alloc,zeroValue,typeInfo,hi,hz,newVar,newRow]
 |box t x=>
  simp only [ho] at hv
  cases hn:T.cells t with
  |none=>simp [hn,N.val] at hv
  |some n=>
   simp only [hn] at hv;obtain ⟨hc,hv⟩:=jK hv;rw [Bool.and_eq_true] at hc;obtain ⟨AG,_⟩:=(cY h x).cells hc.1
   cases mj:(bif T.cap t then gz (qM st x).cells else none) with
   |none=>
    rw [mj] at hv;obtain ⟨k,s0,hk,nG,rfl⟩:=Gu hv;refine one _ _ ⟨_,hk▸h.lh (ty:=t) nG (hd k hk) AG⟩ (lM.alloc _ _) ?_;simp [execOp,ho,Instr.box,newVar,newRow]
   |some p=>
    obtain ⟨r,y⟩:=p;rw [mj] at hv;simp only [N.val,Option.some.injEq] at hv;subst hv;have hp2:gz (qM st x).cells=some ⟨r,y⟩:=by
     cases hcp:T.cap t with
     |true=>rw [hcp] at mj;exact mj
     |false=>rw [hcp] at mj;cases mj
    have H3:c.ok w.heap.size:=by
     unfold Cz.ok
     cases hq:c.own w.heap.size with
     |none=>rfl
     |some l=>exact absurd (h.owned _ l hq).1 (Nat.lt_irrefl _)
    have Dc:iB c st (w.alloc (.cells (a.eval x).cells t (0,0))) (.one (.oe r y 0)) (.pointer (some ⟨w.heap.size,0,none⟩)):=
     ⟨w.heap.size,0,rfl,by simp,H3,qO (Fw.grow h _).stays _ hp2 _ 0 AG fun i v hv=>by
      rw [Nat.zero_add];exact Oc (heap_alloc_new w _) hv⟩
    refine one (.pointer (some ⟨w.heap.size,0,none⟩)) (w.alloc (.cells (a.eval x).cells t (0,0))) ⟨c,(h.grow _).bW Dc hd⟩ (lM.alloc _ _) ?_;simp [execOp,ho,Instr.box,newVar,newRow]
 |makeFunc fn first AU=>
  cases fn with
  |func g=>
   simp only [ho] at hv;obtain ⟨apy,hv⟩:=jK hv
   cases hc:CX st AU.toList with
   |none=>simp [hc,N.val] at hv
   |some p=>
    obtain ⟨HP,rs,x⟩:=p;rw [hc] at hv;simp only [N.val,Option.some.injEq] at hv;subst hv;obtain ⟨c1,h1,h2,h3⟩:=Od _ h hc;have hf0:first = #[]:=by simpa using apy
    subst hf0;have Dc:iB c1 HP w (.one (.fn g rs [x])) (.func (.func g) #[] (AU.map a.eval)):=
     ⟨_,rfl,fun y hy=>by
      simp at hy;subst hy;rw [Array.toList_map];exact h3⟩
    exact one _ w ⟨c1,h1.bW Dc hd⟩ (lM.refl w) (by simp [execOp,ho,Instr.makeFunc])
  |_=>simp [ho,N.val] at hv
 |buildSlice t len parts=>
  simp only [ho] at hv;obtain ⟨v,w',h1,hkp,c',h2⟩:=HZ hT h (Of h parts) hv hd;exact one v w' ⟨c',h2⟩ hkp (by simp only [execOp,ho];exact v8 h1)
 |makeSlice t l cp=>
  simp only [ho] at hv;obtain ⟨v,w',h1,hkp,c',h2⟩:=WO hT h (cY h l) (cY h cp) hv hd;exact one v w' ⟨c',h2⟩ hkp (by simp only [execOp,ho];exact v8 h1)
 |load t x=>
  simp only [ho] at hv;obtain ⟨v,h1,h2⟩:=N2 hT h (cY h x) hv hd;exact one v w ⟨c,h2⟩ (lM.refl w) (by simp only [execOp,ho];exact v8 (h1 w (lM.refl w)))
 |store t x y=>
  simp only [ho] at hv
  cases xa:o.dst with
  |some _=>simp [xa,N.val] at hv
  |none=>
   simp only [xa] at hv;obtain ⟨w',h1,c',h2⟩:=TU hT h (cY h x) (cY h y) hv;intro Q;have hr:(execOp a.eval o).run P w=.ok .skip w':=by simp [execOp,ho,Sem.run_bind,h1]
   unfold Oper.wp;rw [hr];refine ⟨⟨c',?_,v7 a _ _⟩,fun hk => ?_⟩
   ·rw [xa];exact h2
   ·simp [kindOk,ho] at hk
 |call cl=>
  obtain ⟨callee,args,Wl⟩:=cl
  cases callee with
  |invoke r n=>simp [ho,N.val] at hv
  |value x=>
   cases x with
   |func f=>simp [ho,Op.QC] at hf
   |tmp f=>simp [ho,Op.QC] at hf
   |_=>simp [ho,N.val] at hv
  |builtin b=>
   simp only [ho] at hv;have Sw:∀x y,args.toList=[x,y]→args = #[x,y]:=fun x y e=>by rw [←Array.toArray_toList (xs:=args),e]
   split at hv
   ·simp [ho] at hp
   ·rename_i x y t u ha ht;obtain ⟨htu,HU⟩:=jK hv;have htu:=Nat.eq_of_beq_eq_true htu;subst htu;have ha:=Sw x y ha;have ht:Wl = #[t,t]:=by rw [←Array.toArray_toList (xs:=Wl),ht]
    subst ha ht;obtain ⟨v,w',h1,c',h2⟩:=Qx (ty:=o.type) hT h (cY h x) (cY h y) HU hd;exact yY (c':=c') (by simp only [execOp,ho];simp [resolve,invoke,builtin,Sem.run_bind,h1]) h2 (fun hk=>by simp [kindOk,ho] at hk)
   ·simp [ho] at hp
   ·simp [ho] at hp
   ·simp [ho] at hp
   ·rename_i x t ha ht;have ha:args = #[x]:=by rw [←Array.toArray_toList (xs:=args),ha]
    have ht:Wl = #[t]:=by rw [←Array.toArray_toList (xs:=Wl),ht]
    subst ha ht
    cases xa:o.dst with
    |some _=>simp [xa,N.val] at hv
    |none=>
     simp only [xa] at hv;obtain ⟨w',h1,c',h2⟩:=T0 (ty:=o.type) hT h (cY h x) hv;have hr:(execOp a.eval o).run P w=.ok (.value (.tuple #[])) w':=by simp only [execOp,ho];simp [resolve,invoke,builtin,Sem.run_bind,h1]
     exact yY (c':=c') hr (by rw [xa];exact h2) (fun hk=>by simp [kindOk,ho] at hk)
   ·simp [N.val] at hv
 |move _=>simp [ho] at hp
 |assign _=>simp [ho] at hp
 |pick _ _ _=>simp [ho] at hp
 |build _ _=>simp [ho] at hp
 |nilCheck _=>simp [ho] at hp
 |binOp _ _ _ _ _=>simp [ho] at hp
 |unOp _ _ _=>simp [ho] at hp
 |convert t1 t2 x=>
  simp only [ho] at hv hp;have hx:=cY h x
  split at hv
  ·rename_i hq;simp [hq] at hp
  ·rename_i hq;simp [hq] at hp
  ·rename_i cx h1 h2 hq
   split at hv
   ·rename_i b he;rw [hq] at hx;obtain ⟨ys,h3,h4⟩:=Gt h hx hv;simp only [N.val,Option.some.injEq] at h3;subst h3;obtain ⟨e,i,z,g1,g2,g3,g4,g5,_⟩:=hT.elem _ _ _ he;obtain ⟨d2,q2,e2⟩:=hT.kind _ _ h2;simp only [descOf] at e2;subst e2;have hu8:P.underlying e=some (.int .u8):=hT.u8 t1 e b he g1;have hr:=T2 (P:=P) h4;refine one (.string (bytesOf ys)) w ⟨c,h.bW (v:=.one (.str (bytesOf ys))) rfl hd⟩ (lM.refl w) ?_;simp only [execOp,ho];refine v8 ?_;rcases h4 with ⟨hn,_⟩ | ⟨a0,cap,hn,_⟩
    ·rw [hn] at hr ⊢;rw [run_convert_bytes_string w t1 t2 e none 0 0 g1 hu8 q2];exact hr
    ·rw [hn] at hr ⊢;rw [run_convert_bytes_string w t1 t2 e (some a0) _ cap g1 hu8 q2];exact hr
   ·simp [N.val] at hv
  ·simp [N.val] at hv
 |slice _ _ _ _ _=>simp [ho] at hp
 |fieldAddr _ _ _=>simp [ho] at hp
 |indexAddr _ _ _=>simp [ho] at hp
 |index _ _ _=>simp [ho] at hp
 |extract _ _=>simp [ho] at hp
 |field _ _ _=>simp [ho] at hp
 |_=>simp [ho,N.val] at hv
end Go.TM
namespace Go.TM
open Go Go.RowKit
def xo (P:Program) (T:pA) (S:nF) (w0:World) (mu:Mu) (n:Nat):Prop:=
 ∀ {c:Cz} {st bV:St} {a:Act} {w:World} {o:Oper},Rel w0 mu c st a w→a.tmps.size=n→(∀k,o.dst=some k→k<n)→(Sn T S st o).val=some bV→C0 P w0 mu bV o a w (kindOk S st o .one)
theorem H4 (a:Act) (d:Nat) (v:Value) (hd:d<a.tmps.size) (h:a.eval (.tmp d)=v):a.put (some d) v=a:=by
 obtain ⟨tm,df⟩:=a;simp only [Act.put,Act.mk.injEq,and_true];simp only [Act.eval,Array.getD_eq_getD_getElem?,Array.getElem?_eq_getElem hd,Option.getD_some] at h;apply Array.ext
 ·simp
 ·intro i h1 h2;rw [Array.getElem_setIfInBounds h2]
  split
  ·rename_i e;subst e;exact h.symm
  ·rfl
theorem Cn {w0:World} {mu:Mu} {c:Cz} {st:St} {a:Act} {w:World} (h:Rel w0 mu c st a w) {d:Nat} {b:Bool} (hg:dR st d=.one (.bool b)) :
  d<a.tmps.size∧a.eval (.tmp d)=.bool b:=by
 have h1:=h.jy d;rw [hg] at h1;have h1:a.eval (.tmp d)=.bool b:=h1;refine ⟨?_,h1⟩;rcases Nat.lt_or_ge d a.tmps.size with h2 | h2
 ·exact h2
 ·simp [Act.eval,Array.getD_eq_getD_getElem?,Array.getElem?_eq_none h2,undef] at h1
theorem Rel.ajO {w0:World} {mu:Mu} {c:Cz} {st:St} {a:Act} {w:World} (h:Rel w0 mu c st a w) {d:Nat} {b:Bool} (hg:dR st d=.one (.bool b)) :
  Rel w0 mu c (TM.bW st (some d) (.one (.bool b))) a w:=by
 obtain ⟨h1,h2⟩:=Cn h hg;have:=h.bW (d:=some d) (v:=.one (.bool b)) (u:=.bool b) rfl (fun t e=>by cases e;exact h1)
 rwa [H4 a d _ h1 h2] at this
theorem H5 {ops:Array Oper} {a:Act} {j d:Nat} {b:Bool} (hj:(nth ops.toList j).bind (·.dst)=some d) (hd:d<a.tmps.size) (h:a.eval (.tmp d)=.bool b):yielded ops a.tmps j=some b:=by
 rw [og,Array.getElem?_toList] at hj;unfold yielded;rw [hj];simp only [Act.eval,Array.getD_eq_getD_getElem?,Array.getElem?_eq_getElem hd,Option.getD_some] at h;simp [Array.getElem?_eq_getElem hd,h]
theorem Co:(st:St)→(d:Nat)→{v:V}→dR st d=v→TM.bW st (some d) v=st
 | [],_,_,_=>rfl
 |s::l,0,v,h=>by
  have h:s.v=v:=h;subst h;rfl
 |s::l,d+1,v,h=>congrArg (s :: ·) (Co l d h)
theorem Oh {S:nF} {st:St} {o:Oper} {d:Nat} {b:Bool} {k:Kd} (h:dR st d=.one (.bool b)):kindOk S (TM.bW st (some d) (.one (.bool b))) o k=kindOk S st o k:=by
 rw [Co st d h]
theorem Cp (c:Cz) (st:St) (w:World):iB c st w (.rb []) undef:=⟨#[],rfl,rfl,fun i x y hx=>by simp at hx⟩
theorem C1 {ops:Array Oper} {a:Act} {j d:Nat} (hj:(nth ops.toList j).bind (·.dst)=some d) (h:a.eval (.tmp d)=undef):yielded ops a.tmps j=none:=by
 rw [og,Array.getElem?_toList] at hj;unfold yielded;rw [hj];simp only [Act.eval,Array.getD_eq_getD_getElem?] at h
 cases ht:a.tmps[d]? with
 |none=>simp [ht]
 |some v=>
  rw [ht] at h;simp only [Option.getD_some] at h;subst h;simp [ht,undef]
theorem H6 {w0:World} {mu:Mu} {c:Cz} {st:St} {a:Act} {w:World} (h:Rel w0 mu c st a w) {d:Nat} (hg:dR st d=.rb []):a.eval (.tmp d)=undef:=by
 have h1:=h.jy d;rw [hg] at h1;obtain ⟨vs,e,hl,_⟩:=h1;have:vs = #[]:=Array.eq_empty_of_size_eq_zero hl.symm;rw [e,this];rfl
theorem Oi {P:Program} {T:pA} {S:nF} {w0:World} {mu:Mu} {n:Nat} (Kk:xo P T S w0 mu n) {c:Cz} {st bV:St} {a:Act} {w:World} {ops:Array Oper} {o:Oper} (h:Rel w0 mu c st a w) (hn:a.tmps.size=n)
  (hd:∀k,o.dst=some k→k<n) (hv:(Fs T S ops.toList st o).val=some bV) :
  (Region.wanted o (yielded ops a.tmps)=true∧C0 P w0 mu bV o a w (kindOk S st o .one))∨(Region.wanted o (yielded ops a.tmps)=false∧Rel w0 mu c bV (a.put o.dst undef) w):=by
 unfold Fs at hv;unfold Region.wanted
 cases hg:o.guard with
 |none=>
  simp only [hg] at hv ⊢;exact .inl ⟨trivial,Kk h hn hd hv⟩
 |some p=>
  obtain ⟨j,want⟩:=p;simp only [hg] at hv ⊢
  cases hj:(nth ops.toList j).bind (·.dst) with
  |none=>simp [hj,N.val] at hv
  |some d=>
   simp only [hj] at hv
   split at hv
   ·rename_i b WX;obtain ⟨h1,h2⟩:=Cn h WX;have hy:=H5 (ops:=ops) hj h1 h2;rw [hy];have hk:=h.ajO WX;have yes:(Sn T S (TM.bW st (some d) (.one (.bool b))) o).val=some bV→C0 P w0 mu bV o a w (kindOk S st o .one):=fun e=>(Oh WX)▸Kk hk hn hd e
    have no:(N.done (TM.bW (TM.bW st (some d) (.one (.bool b))) o.dst (.rb []))).val=some bV→Rel w0 mu c bV (a.put o.dst undef) w:=by
     intro e;simp only [N.val,Option.some.injEq] at e;subst e;exact hk.bW (Cp _ _ _) (fun k Ka=>by rw [hn];exact hd k Ka)
    rcases yg hv with ⟨hb,HU⟩ | ⟨hb,HU⟩
    ·subst hb
     cases want
     ·exact .inr ⟨rfl,no HU⟩
     ·exact .inl ⟨rfl,yes HU⟩
    ·subst hb
     cases want
     ·exact .inl ⟨rfl,yes HU⟩
     ·exact .inr ⟨rfl,no HU⟩
   ·rename_i WX;simp only [N.val,Option.some.injEq] at hv;subst hv;rw [C1 (ops:=ops) hj (H6 h WX)];exact .inr ⟨by cases want<;>rfl,h.bW (Cp _ _ _) (fun k Ka=>by rw [hn];exact hd k Ka)⟩
   ·simp [N.val] at hv
def Dd (n:Nat) (ops:List Oper):Bool:=ops.all fun o=>match o.dst with | some k=>Nat.blt k n | none=>true
theorem Fv {n:Nat} {ops:List Oper} (h:Dd n ops=true) {o:Oper} (ho:o∈ops):∀k,o.dst=some k→k<n:=by
 intro k hk;have:=List.all_eq_true.1 h o ho;rw [hk] at this;exact Nat.le_of_ble_eq_true this
def Next {R:Type} (w0:World) (mu:Mu) (n:Nat) (r:R) (k:St→Option R) (K:Act→World→Prop):Prop:=
 ∀ {c:Cz} {st:St} {a:Act} {w:World},Rel w0 mu c st a w→a.tmps.size=n→k st=some r→K a w
theorem MF {R:Type} {P:Program} {T:pA} {S:nF} {w0:World} {mu:Mu} {n:Nat} (Kk:xo P T S w0 mu n) {ops:Array Oper} {Q:Exit→Act→World→Prop} {k:St→Option R} {r:R} (hk:Next w0 mu n r k (Q .normal)) :
  (l:List Oper)→Dd n l=true→{c:Cz}→{st:St}→{a:Act}→{w:World}→Rel w0 mu c st a w→a.tmps.size=n→aag T S ops.toList l st k=some r→wpList P ops Q l a w
 | [],_,_,_,_,_,h,hn,hv=>hk h hn hv
 |o::l,hl,c,st,a,w,h,hn,hv=>by
  unfold aag at hv;rw [N.fold_eq] at hv;obtain ⟨bV,h1,h2⟩:=Option.bind_eq_some_iff.1 hv;have hd:=Fv hl (o:=o) List.mem_cons_self;have Cm:Dd n l=true:=by
   unfold Dd at hl ⊢;rw [List.all_cons,Bool.and_eq_true] at hl;exact hl.2
  refine wpList_step fun K hK => ?_
  rcases Oi Kk h hn hd h1 with ⟨hw,hs⟩ | ⟨hw,hs⟩
  ·rw [if_pos hw];refine Oper.wp_mono (fun a' w' ⟨⟨c',hr,qY⟩,_⟩=>hK a' w' ?_) (hs Q);exact MF Kk hk l Cm hr (qY.trans hn) h2
  ·rw [if_neg (by rw [hw];decide)];exact hK _ _ (MF Kk hk l Cm hs ((v7 _ _ _).trans hn) h2)
def Ex.go:Ex→Exit
 |.normal=>.normal
 |.exit n=>.exit n
 |.ret=>.ret
def Sx {R:Type} (w0:World) (mu:Mu) (n:Nat) (r:R) (k:Ex→St→Option R) (Q:Exit→Act→World→Prop):Prop:=
 ∀ {e:Ex} {c:Cz} {st:St} {a:Act} {w:World},Rel w0 mu c st a w→a.tmps.size=n→k e st=some r→Q e.go a w
def iK (n:Nat):Code→Bool
 |.region _ ops _=>Dd n ops.toList
 |.seq a b=>iK n a&&iK n b
 |.cond _ a b=>iK n a&&iK n b
 |.block _ a=>iK n a
 |.loop a=>iK n a
 |_=>true
def qt {R:Type} (P:Program) (w0:World) (mu:Mu) (n:Nat) (L:qN R) (r:R) (id:Nat) (b:Code):Prop:=
 ∀ {k:Ex→St→Option R} {Q:Exit→Act→World→Prop},Sx w0 mu n r k Q→∀ {c:Cz} {st:St} {a:Act} {w:World},Rel w0 mu c st a w→a.tmps.size=n→
  L id b st k=some r→(Code.block id (.loop b)).wp P Q a w
def fY (ok:Nat→Code→Prop):Code→Prop
 |.seq a b=>fY ok a∧fY ok b
 |.cond _ a b=>fY ok a∧fY ok b
 |.block id (.loop b)=>ok id b
 |.block _ a=>fY ok a
 |_=>True
def vE (R:Type) (P:Program) (T:pA) (S:nF) (D:nO) (w0:World) (mu:Mu) (n:Nat) (ok:Nat→Array Oper→Prop):Prop:=
 ∀ {id:Nat} {ops:Array Oper} {Q:Exit→Act→World→Prop} {k:St→Option R} {r:R},ok id ops→Dd n ops.toList=true→Next w0 mu n r k (Q .normal)→∀ {c:Cz} {st:St} {a:Act} {w:World},Rel w0 mu c st a w→a.tmps.size=n→
  xL T S ops.toList (D id) st k=some r→(Code.region id ops true).wp P Q a w
def gC (ok:Nat→Array Oper→Prop):Code→Prop
 |.region id ops true=>ok id ops
 |.seq a b=>gC ok a∧gC ok b
 |.cond _ a b=>gC ok a∧gC ok b
 |.block _ (.loop _)=>True
 |.block _ a=>gC ok a
 |_=>True
theorem Ek {R:Type} {P:Program} {T:pA} {S:nF} {D:nO} {L:qN R} {w0:World} {mu:Mu} {n:Nat} {r:R} {ok:Nat→Array Oper→Prop} (Kk:xo P T S w0 mu n) (hD:vE R P T S D w0 mu n ok) :
  (cd:Code)→iK n cd=true→fY (qt P w0 mu n L r) cd→gC ok cd→{k:Ex→St→Option R}→{Q:Exit→Act→World→Prop}→Sx w0 mu n r k Q→
  {c:Cz}→{st:St}→{a:Act}→{w:World}→Rel w0 mu c st a w→a.tmps.size=n→ib T S D L cd st k=some r→cd.wp P Q a w:=by
 intro cd
 induction cd with
 |skip=>
  intro _ _ _ k Q hk c st a w h hn hv;unfold ib at hv;exact wp_skip (hk h hn hv)
 |region id ops draw=>
  intro hd hL hw k Q hk c st a w h hn hv
  cases draw with
  |false=>
   unfold ib at hv;exact wp_region_list (MF Kk (Q:=Q) (k:=fun bV=>k .normal bV) (fun h1 h2 h3=>hk h1 h2 h3) ops.toList hd h hn hv)
  |true=>
   unfold ib at hv;exact hD hw hd (k:=fun bV=>k .normal bV) (fun h1 h2 h3=>hk h1 h2 h3) h hn hv
 |seq x y ihx ihy=>
  intro hd hL hw k Q hk c st a w h hn hv;unfold ib at hv;unfold iK at hd;rw [Bool.and_eq_true] at hd;refine wp_seq (ihx hd.1 hL.1 hw.1 (fun {e} {c} {st} {a} {w} h1 h2 h3 => ?_) h hn hv)
  cases e with
  |normal=>exact ihy hd.2 hL.2 hw.2 hk h1 h2 h3
  |exit m=>exact hk h1 h2 h3
  |ret=>exact hk h1 h2 h3
 |cond x y z ihy ihz=>
  intro hd hL hw k Q hk c st a w h hn hv;unfold iK at hd;rw [Bool.and_eq_true] at hd
  cases x with
  |tmp t=>
   unfold ib at hv
   split at hv
   ·rename_i b hg;obtain ⟨_,h2⟩:=Cn h hg;have hkn:=h.ajO hg
    cases b with
    |true=>exact wp_cond_true h2 (ihy hd.1 hL.1 hw.1 hk hkn hn hv)
    |false=>exact wp_cond_false h2 (ihz hd.2 hL.2 hw.2 hk hkn hn hv)
   ·cases hv
  |_=>unfold ib at hv;cases hv
 |block id b ih=>
  intro hd hL hw k Q hk c st a w h hn hv
  by_cases hb:∃b',b=.loop b'
  ·obtain ⟨b',rfl⟩:=hb;unfold ib at hv;exact hL hk h hn hv
  ·have xM:ib T S D L b st (fun e bV=>match e with
     |.exit n=>bif Nat.beq n id then k .normal bV else k (.exit n) bV
     |e=>k e bV)=some r:=by
    cases b with
    |loop b'=>exact absurd ⟨b',rfl⟩ hb
    |_=>unfold ib at hv;exact hv
   have hw':gC ok b:=by
    cases b with
    |loop b'=>exact absurd ⟨b',rfl⟩ hb
    |_=>unfold gC at hw;exact hw
   have hL':fY (qt P w0 mu n L r) b:=by
    cases b with
    |loop b'=>exact absurd ⟨b',rfl⟩ hb
    |_=>unfold fY at hL;exact hL
   refine wp_block (ih hd hL' hw' (fun {e} {c} {st} {a} {w} h1 h2 h3 => ?_) h hn xM)
   cases e with
   |normal=>exact hk h1 h2 h3
   |ret=>exact hk h1 h2 h3
   |exit m=>
    simp only at h3;unfold Exit.inBlock;simp only [Ex.go]
    cases hm:Nat.beq m id with
    |true=>
     rw [hm] at h3;rw [if_pos (Nat.eq_of_beq_eq_true hm)];exact hk h1 h2 h3
    |false=>
     rw [hm] at h3;rw [if_neg (Nat.ne_of_beq_eq_false hm)];exact hk (e:=.exit m) h1 h2 h3
 |exit id=>
  intro _ _ _ k Q hk c st a w h hn hv;unfold ib at hv;exact wp_exit (hk h hn hv)
 |ret=>
  intro _ _ _ k Q hk c st a w h hn hv;unfold ib at hv;exact wp_ret (hk h hn hv)
 |_=>
  intro _ _ _ k Q hk c st a w h hn hv;unfold ib at hv
  cases hv
end Go.TM
namespace Go.TM
open Go Go.RowKit
def OwnAt (c:Cz) (w:World) (l:Lb) (lc:Loc) (A:nY) (v:Value):Prop:=
 v.oneCell'=true∧pX lc A.r.width 0 A.xs.length v∧A.own=true∧
 match lc with
 |.nil=>A.xs=[]
 |.at b off cap=>c.own b=some l∧A.xs.length≤cap∧(∃cur ty,w.heap[b]?=some (.cells cur ty (0,0))∧off+cap*A.r.width≤cur.size)∧
   dY c w l A b off
def cN (c:Cz) (w:World) (f:Nat→Lb):(j:Nat)→List OV→List Value→Prop
 |_,[],vs=>vs=[]
 |j,.int k n::os,vs=>∃l,vs=.int k n::l∧cN c w f (j+1) os l
 |j,.bool b::os,vs=>∃l,vs=.bool b::l∧cN c w f (j+1) os l
 |j,.str s::os,vs=>∃l,vs=.string s::l∧cN c w f (j+1) os l
 |j,.gJ::os,vs=>∃l,vs=.slice none 0 0::l∧cN c w f (j+1) os l
 |j,.shr r xs::os,vs=>∃v l,vs=v::l∧eD w c.ok (.sl r) v xs∧cN c w f (j+1) os l
 |j,.own A::os,vs=>∃v l,vs=v::l∧(∃lc,OwnAt c w (f j) lc A v)∧cN c w f (j+1) os l
 |j,.oe r xs::os,vs=>∃v l,vs=v::l∧KY w c.ok r v xs∧cN c w f (j+1) os l
 |j,.fn g rs xs::os,vs=>∃v l,vs=v::l∧FnAt w c.ok g rs v xs∧cN c w f (j+1) os l
def K6 (c:Cz) (w:World) (i:Nat) (os:List OV) (v:Value):Prop:=
 ∃sj vs ty,v=.pointer (some ⟨sj,0,none⟩)∧c.own sj=some (.yd i)∧w.heap[sj]?=some (.cells vs ty (0,0))∧cN c w (.dC i) 0 os vs.toList
def WY (c:Cz) (w:World) (i:Nat) (lc:Nat→Loc) (j:Nat) (o:OV) (u:Value):Prop:=
 match o with
 |.own A=>OwnAt c w (.dC i j) (lc j) A u
 |.gJ=>lc j=.nil
 |_=>True
def xp (c:Cz) (w:World) (i:Nat) (lc:Nat→Loc):AV→Value→Prop
 |.val false os,v=>cN c w (.dC i) 0 os [v]
 |.val true os,v=>∃vs,v=.agg vs∧cN c w (.dC i) 0 os vs.toList
 |.io A,v=>OwnAt c w (.dC i 0) (lc 0) A v
 |.box os,v=>K6 c w i os v
 |.dX os,v=>∃vs,v=.agg vs∧cN c w (.dC i) 0 os vs.toList∧∀j o u,os[j]?=some o→vs.toList[j]?=some u→WY c w i lc j o u
def De (c:Cz) (w:World) (lc:Nat→Nat→Loc):(i:Nat)→List AV→List Value→Prop
 |_,[],vs=>vs=[]
 |i,a::as,vs=>∃v l,vs=v::l∧xp c w i (lc i) a v∧De c w lc (i+1) as l
def Sy (c:Cz) (w:World) (i:Nat) (lc:Nat→Loc) (os:List OV) (us:List Value) (As:List (Option nY)):Prop:=
 ∀j A,os[j]?=some (.own A)→∃B u,nth As j=some (some B)∧us[j]?=some u∧B.r.width=A.r.width∧B.xs.length=A.xs.length∧OwnAt c w (.dC i j) (lc j) B u
def kN (c:Cz) (w:World) (lc:Nat→Nat→Loc):(i:Nat)→List AV→List Value→List XV→Prop
 |_,[],_,xs=>xs=[]
 |_,_::_,[],_=>False
 |i,.val _ _::as,_::vs,xs=>kN c w lc (i+1) as vs xs
 |i,.io A::as,v::vs,xs=>∃B l,xs=.io B::l∧B.r.width=A.r.width∧B.xs.length=A.xs.length∧OwnAt c w (.dC i 0) (lc i 0) B v∧kN c w lc (i+1) as vs l
 |i,.box _::as,v::vs,xs=>∃os l,xs=.box os::l∧K6 c w i os v∧kN c w lc (i+1) as vs l
 |i,.dX os::as,v::vs,xs=>∃As l,xs=.dX As::l∧(∃us,v=.agg us∧Sy c w i (lc i) os us.toList As)∧kN c w lc (i+1) as vs l
def pB (c:Cz) (w:World):(j:Nat)→List RV→List Value→Prop
 |_,[],vs=>vs=[]
 |j,.one o::rs,vs=>∃v l,vs=v::l∧cN c w .kK j [o] [v]∧pB c w (j+1) rs l
 |j,.agg os::rs,vs=>∃us l,vs=.agg us::l∧cN c w .kK j os us.toList∧pB c w (j+os.length) rs l
 |j,.ptr os::rs,vs=>∃v l,vs=v::l∧(∃sj us ty,v=.pointer (some ⟨sj,0,none⟩)∧c.own sj=some (.kK j)∧w.heap[sj]?=some (.cells us ty (0,0))∧cN c w .kK (j+1) os us.toList)∧pB c w (j+(os.length+1)) rs l
def wa (c:Cz) (w:World) (rs:List RV) (v:Value):Prop:=
 (∃r,rs=[r]∧pB c w 0 [r] [v])∨(rs.length≠1∧∃vs,v=.tuple vs∧pB c w 0 rs vs.toList)
structure Fx (w0:World) (mu:Mu) (c:Cz) (w:World):Prop where
 owned:∀b l,c.own b=some l→b<w.heap.size∧(l=.out∨w0.heap.size≤b∨mu.m b)
 free:∀b,b<w0.heap.size→c.own b=none→mu.m b∨mu.ok b
 kept:w.os=w0.os∧w.tape=w0.tape∧w.output=w0.output∧w0.heap.size≤w.heap.size
 old:∀k,k<w0.heap.size→¬mu.m k→w.heap[k]?=w0.heap[k]?
def Lb.om:Lb→Bool
 |.dC _ _=>true
 |.yd _=>true
 |_=>false
structure Handed (c:Cz) (w:World) (mu:Mu):Prop where
 m:∀b,mu.m b↔∃l,c.own b=some l∧l.om=true
 ok:∀b,mu.ok b↔c.own b=none
 lt:∀b l,c.own b=some l→b<w.heap.size
 lb:∀b l,c.own b=some l→l=.out∨l.om=true
def FnOk (P:Program) (f:FuncId) (Hc:AS):Prop:=
 ∀(c:Cz) (w:World) (mu:Mu) (lc:Nat→Nat→Loc) (gq:List AV) (args:Array Value) (A:Ans) (x:aO A.r),Handed c w mu→De c w lc 0 gq args.toList→Hc gq=some A→A.o=some x→
  Calls P f args w fun e w'=>∃v,e=.returned v∧∃c',Fx w mu c' w'∧wa c' w' (A.res x).outs v∧kN c' w' lc 0 gq args.toList (A.res x).exts
mutual
theorem eD.plain {w:World} {ok D5:Nat→Prop}:(t:Ty)→(v:Value)→(x:den t)→RT.qq (.cons t .nil)=false→eD w ok t v x→eD w D5 t v x
 |.int _,_,_,_,h=>by unfold eD at h ⊢;exact h
 |.bool,_,_,_,h=>by unfold eD at h ⊢;exact h
 |.str,_,_,_,h=>by unfold eD at h ⊢;exact h
 |.sl _,_,_,hs,_=>by simp [RT.qq] at hs
theorem fP.plain {w:World} {ok D5:Nat→Prop}:(r:RT)→(b off:Nat)→(x:aO r)→r.qq=false→fP w ok r b off x→fP w D5 r b off x
 |.nil,_,_,_,_,_=>by unfold fP;trivial
 |.cons t r,b,off,x,hs,h=>by
  unfold fP at h ⊢;obtain ⟨⟨v,h1,h2⟩,h3⟩:=h;refine ⟨⟨v,h1,eD.plain t v x.1 ?_ h2⟩,fP.plain r b (off+1) x.2 ?_ h3⟩
  ·cases t<;>simp_all [RT.qq]
  ·cases t<;>simp_all [RT.qq]
end
structure Pass (c c':Cz) (pd:Lb→Prop):Prop where
 dC:∀b l,pd l→c.own b=some l→c'.own b=some l
 ok:∀b,c.ok b→c'.ok b
theorem OwnAt.pass {c c':Cz} {w:World} {l:Lb} {lc:Loc} {A:nY} {v:Value} (hp:∀b,c.own b=some l→c'.own b=some l) (ho:(∀b,c.ok b→c'.ok b)∨(!A.r.qq)=true) (h:OwnAt c w l lc A v):OwnAt c' w l lc A v:=by
 unfold OwnAt at h ⊢;obtain ⟨h1,h2,h3,h4⟩:=h;refine ⟨h1,h2,h3,?_⟩
 cases lc with
 |nil=>exact h4
 |«at» b off cap=>
  obtain ⟨g1,g2,g3,g4⟩:=h4;refine ⟨hp b g1,g2,g3,?_⟩
  by_cases hpl:A.md=.sh∧A.r.qq=false
  ·exact (dY.sh hpl.1).2 fun i x hx=>fP.plain _ _ _ _ hpl.2 ((dY.sh hpl.1).1 g4 i x hx)
  ·refine g4.go (fun hm => ?_) rfl (fun _ k hk=>⟨rfl,hp k hk⟩);rcases ho with ho | ho
   ·exact ⟨Nat.le_refl _,fun _ _ _=>rfl,fun b _ h=>ho b h⟩
   ·exact absurd ⟨hm,by simpa using ho⟩ hpl
theorem cN.pass {c c':Cz} {w:World} {f:Nat→Lb} (hp:∀b j,c.own b=some (f j)→c'.own b=some (f j)):(os:List OV)→((∀b,c.ok b→c'.ok b)∨os.all OV.plain=true)→(j:Nat)→(vs:List Value)→cN c w f j os vs→cN c' w f j os vs
 | [],_,_,_,h=>h
 |.int k n::os,ho,j,vs,h=>by
  obtain ⟨l,h1,h2⟩:=h;exact ⟨l,h1,cN.pass hp os (ho.imp id fun h=>by simp at h;simpa using h.2) (j+1) l h2⟩
 |.bool k::os,ho,j,vs,h=>by
  obtain ⟨l,h1,h2⟩:=h;exact ⟨l,h1,cN.pass hp os (ho.imp id fun h=>by simp at h;simpa using h.2) (j+1) l h2⟩
 |.str k::os,ho,j,vs,h=>by
  obtain ⟨l,h1,h2⟩:=h;exact ⟨l,h1,cN.pass hp os (ho.imp id fun h=>by simp at h;simpa using h.2) (j+1) l h2⟩
 |.gJ::os,ho,j,vs,h=>by
  obtain ⟨l,h1,h2⟩:=h;exact ⟨l,h1,cN.pass hp os (ho.imp id fun h=>by simp at h;simpa using h.2) (j+1) l h2⟩
 |.shr r xs::os,ho,j,vs,h=>by
  obtain ⟨v,l,h1,h2,h3⟩:=h;refine ⟨v,l,h1,?_,cN.pass hp os (ho.imp id fun h=>by simp at h;simpa using h.2) (j+1) l h3⟩;rcases ho with ho | ho
  ·exact eD.stays ⟨Nat.le_refl _,fun _ _ _=>rfl,fun b _ h=>ho b h⟩ _ _ _ h2
  ·simp [OV.plain] at ho
 |.oe r xs::os,ho,j,vs,h=>by
  obtain ⟨v,l,h1,h2,h3⟩:=h;refine ⟨v,l,h1,?_,cN.pass hp os (ho.imp id fun h=>by simp at h;simpa using h.2) (j+1) l h3⟩;rcases ho with ho | ho
  ·exact h2.stays ⟨Nat.le_refl _,fun _ _ _=>rfl,fun b _ h=>ho b h⟩
  ·simp [OV.plain] at ho
 |.fn g rs xs::os,ho,j,vs,h=>by
  obtain ⟨v,l,h1,h2,h3⟩:=h;refine ⟨v,l,h1,?_,cN.pass hp os (ho.imp id fun h=>by simp at h;simpa using h.2) (j+1) l h3⟩;rcases ho with ho | ho
  ·exact h2.stays ⟨Nat.le_refl _,fun _ _ _=>rfl,fun b _ h=>ho b h⟩
  ·simp [OV.plain] at ho
 |.own A::os,ho,j,vs,h=>by
  obtain ⟨v,l,h1,⟨lc,h2⟩,h3⟩:=h;refine ⟨v,l,h1,⟨lc,h2.pass (fun b=>hp b j) (ho.imp id fun h => ?_)⟩,cN.pass hp os (ho.imp id fun h=>by simp at h;simpa using h.2) (j+1) l h3⟩;rw [List.all_cons,Bool.and_eq_true] at h;exact h.1
theorem K6.pass {c c':Cz} {w:World} {i:Nat} {os:List OV} {v:Value} (hb:∀b,c.own b=some (.yd i)→c'.own b=some (.yd i)) (hp:∀b j,c.own b=some (.dC i j)→c'.own b=some (.dC i j)) (ho:(∀b,c.ok b→c'.ok b)∨os.all OV.plain=true) (h:K6 c w i os v):K6 c' w i os v:=by
 obtain ⟨sj,vs,ty,h1,h2,h3,h4⟩:=h;exact ⟨sj,vs,ty,h1,hb _ h2,h3,cN.pass hp os ho 0 _ h4⟩
theorem pB.pass {c c':Cz} {w:World} (hp:∀b j,c.own b=some (.kK j)→c'.own b=some (.kK j)):(rs:List RV)→((∀b,c.ok b→c'.ok b)∨rs.all (fun o=>o.Bi.all OV.plain)=true)→(j:Nat)→(vs:List Value)→pB c w j rs vs→pB c' w j rs vs
 | [],_,_,_,h=>h
 |.one o::rs,ho,j,vs,h=>by
  obtain ⟨v,l,h1,h2,h3⟩:=h;exact ⟨v,l,h1,cN.pass hp [o] (ho.imp id fun h=>by simp [RV.Bi] at h;simpa using h.1) _ _ h2,pB.pass hp rs (ho.imp id fun h=>by simp at h;simpa using h.2) _ _ h3⟩
 |.agg os::rs,ho,j,vs,h=>by
  obtain ⟨v,l,h1,h2,h3⟩:=h;exact ⟨v,l,h1,cN.pass hp os (ho.imp id fun h=>by simp [RV.Bi] at h;simpa using h.1) _ _ h2,pB.pass hp rs (ho.imp id fun h=>by simp at h;simpa using h.2) _ _ h3⟩
 |.ptr os::rs,ho,j,vs,h=>by
  obtain ⟨v,l,h1,⟨sj,us,ty,g1,g2,g3,g4⟩,h3⟩:=h;exact ⟨v,l,h1,⟨sj,us,ty,g1,hp _ _ g2,g3,cN.pass hp os (ho.imp id fun h=>by simp [RV.Bi] at h;simpa using h.1.2) _ _ g4⟩,pB.pass hp rs (ho.imp id fun h=>by simp at h;simpa using h.2) _ _ h3⟩
theorem wa.pass {c c':Cz} {w:World} (hp:∀b j,c.own b=some (.kK j)→c'.own b=some (.kK j)) {rs:List RV} (ho:(∀b,c.ok b→c'.ok b)∨rs.all (fun o=>o.Bi.all OV.plain)=true) {v:Value} (h:wa c w rs v):wa c' w rs v:=by
 rcases h with ⟨r,h1,h2⟩ | ⟨h1,vs,h2,h3⟩
 ·subst h1;exact .inl ⟨r,rfl,pB.pass hp _ ho _ _ h2⟩
 ·exact .inr ⟨h1,vs,h2,pB.pass hp _ ho _ _ h3⟩
theorem Sy.pass {c c':Cz} {w:World} {i:Nat} {lc:Nat→Loc} {os:List OV} {us:List Value} {As:List (Option nY)} (hp:∀b j,c.own b=some (.dC i j)→c'.own b=some (.dC i j)) (ho:(∀b,c.ok b→c'.ok b)∨XV.plain (.dX As)=true) (h:Sy c w i lc os us As):Sy c' w i lc os us As:=by
 intro j A hA;obtain ⟨B,u,h1,h2,h3,h4,h5⟩:=h j A hA;refine ⟨B,u,h1,h2,h3,h4,h5.pass (fun b=>hp b j) (ho.imp id fun h => ?_)⟩;have hm:some B∈As:=by rw [og] at h1;exact List.mem_of_getElem? h1
 have:=List.all_eq_true.1 h _ hm;simpa using this
theorem kN.pass {c c':Cz} {w:World} {lc:Nat→Nat→Loc}:(as:List AV)→(i:Nat)→(hb:∀b k,i≤k→c.own b=some (.yd k)→c'.own b=some (.yd k))→(hp:∀b k j,i≤k→c.own b=some (.dC k j)→c'.own b=some (.dC k j))→(vs:List Value)→(xs:List XV)→((∀b,c.ok b→c'.ok b)∨xs.all XV.plain=true)→kN c w lc i as vs xs→kN c' w lc i as vs xs
 | [],_,_,_,_,_,_,h=>h
 |_::_,_,_,_,[],_,_,h=>h.elim
 |.val _ _::as,i,hb,hp,_::vs,xs,ho,h=>kN.pass as (i+1) (fun b k hk=>hb b k (by omega)) (fun b k j hk=>hp b k j (by omega)) vs xs ho h
 |.io A::as,i,hb,hp,v::vs,xs,ho,h=>by
  obtain ⟨B,l,h1,h2,h3,h4,h5⟩:=h;subst h1;refine ⟨B,l,rfl,h2,h3,h4.pass (fun b=>hp b i 0 (Nat.le_refl _)) (ho.imp id fun h=>by rw [List.all_cons,Bool.and_eq_true] at h;exact h.1),kN.pass as (i+1) (fun b k hk=>hb b k (by omega)) (fun b k j hk=>hp b k j (by omega)) vs l (ho.imp id fun h=>by simp at h;simpa using h.2) h5⟩
 |.dX _::as,i,hb,hp,v::vs,xs,ho,h=>by
  obtain ⟨As,l,h1,⟨us,h2,h3⟩,h4⟩:=h;subst h1;refine ⟨As,l,rfl,⟨us,h2,h3.pass (fun b j=>hp b i j (Nat.le_refl _)) (ho.imp id fun h=>by rw [List.all_cons,Bool.and_eq_true] at h;exact h.1)⟩,kN.pass as (i+1) (fun b k hk=>hb b k (by omega)) (fun b k j hk=>hp b k j (by omega)) vs l (ho.imp id fun h=>by rw [List.all_cons,Bool.and_eq_true] at h;exact h.2) h4⟩
 |.box _::as,i,hb,hp,v::vs,xs,ho,h=>by
  obtain ⟨os,l,h1,h2,h3⟩:=h;subst h1;refine ⟨os,l,rfl,h2.pass (fun b=>hb b i (Nat.le_refl _)) (fun b j=>hp b i j (Nat.le_refl _)) (ho.imp id fun h=>by simp [XV.plain] at h;simpa using h.1),kN.pass as (i+1) (fun b k hk=>hb b k (by omega)) (fun b k j hk=>hp b k j (by omega)) vs l (ho.imp id fun h=>by simp at h;simpa using h.2) h3⟩
end Go.TM
namespace Go.TM
open Go Go.RowKit
def Cz.map (c:Cz) (ρ:Lb→Option Lb):Cz:={ bx:=c.bx,lc:=c.lc,own:=fun b=>(c.own b).bind ρ }
theorem Cz.xN {c:Cz} {ρ:Lb→Option Lb} {b:Nat} (h:c.ok b):(c.map ρ).ok b:=by
 unfold Cz.ok Cz.map at *;simp [h]
theorem Cz.map_some {c:Cz} {ρ:Lb→Option Lb} {b:Nat} {l:Lb} (h:(c.map ρ).own b=some l):∃k,c.own b=some k∧ρ k=some l:=by
 unfold Cz.map at h;exact Option.bind_eq_some_iff.1 h
theorem Cz.o7 {c:Cz} {ρ:Lb→Option Lb} {b:Nat} {l:Lb} (h:c.own b=some l):(c.map ρ).own b=ρ l:=by
 unfold Cz.map;simp [h]
theorem dY.map {c:Cz} {w:World} {l l':Lb} {A:nY} {b off:Nat} (h:dY c w l A b off) {ρ:Lb→Option Lb} (hρ:ρ l=some l'):dY (c.map ρ) w l' A b off:=
 h.go (fun _=>⟨Nat.le_refl _,fun _ _ _=>rfl,fun b _ hb=>Cz.xN hb⟩) rfl (fun _ _ hk=>⟨rfl,(Cz.o7 hk).trans hρ⟩)
theorem WZ {c:Cz} {w:World} {s j:Nat} {A:nY} (h:fQ c w s j A) (ho:A.own=true) {vw:View} {u:Value} (h1:u.oneCell'=true) (hu:pX (c.lc s j) A.r.width vw.lo (vw.app A.xs).length u)
  {ρ:Lb→Option Lb} {l:Lb} (hρ:ρ (.sp s j)=some l) (Kb:A.md.is .sh=true∨vw.isFull=true):∃lc,OwnAt (c.map ρ) w l lc { A with xs:=vw.app A.xs } u:=by
 cases hl:c.lc s j with
 |nil=>
  unfold pX at hu;rw [hl] at hu;exact ⟨.nil,h1,hu,ho,List.length_eq_zero_iff.1 hu.2⟩
 |«at» b off cap=>
  unfold pX at hu;rw [hl] at hu;obtain ⟨a,k,rfl,hk,CK,ha⟩:=hu;unfold fQ at h;rw [hl] at h;obtain ⟨h0,_,⟨cur,ty,h3,h4⟩,h5⟩:=h;rw [ho] at h0;refine ⟨.at b (off+vw.lo*A.r.width) k,h1,⟨a,k,rfl,hk,by omega,by simpa using ha⟩,ho,(Cz.o7 h0).trans hρ,hk,⟨cur,ty,h3,?_⟩,?_⟩
  ·have:(vw.lo+k)*A.r.width≤cap*A.r.width:=Nat.mul_le_mul_right _ CK;rw [Nat.add_mul] at this;show off+vw.lo*A.r.width+k*A.r.width≤cur.size;omega
  ·have hmm:A.md=.sh∨A.md≠.sh:=Classical.em _;rcases hmm with hm | hm
   ·refine dY.WL hm fun i x hi => ?_
    have:=(dY.sh hm).1 h5 _ x (View.Cl vw A.xs hi);have e:off+vw.lo*A.r.width+i*A.r.width=off+(vw.lo+i)*A.r.width:=by rw [Nat.add_mul];omega
    rw [e];exact fP.stays ⟨Nat.le_refl _,fun _ _ _=>rfl,fun b _ hb=>Cz.xN hb⟩ _ _ _ x rfl this
   ·have hf:vw=.full:=by
     rcases Kb with Kb | Kb
     ·exact absurd (Md.xJ.1 Kb) hm
     ·cases vw with
      |full=>rfl
      |«from» _=>cases Kb
      |sub _ _=>cases Kb
    subst hf;have:=h5.go (c':=c.map ρ) (w':=w) (l':=l) (fun e=>absurd e hm) rfl (fun _ k hk=>⟨rfl,(Cz.o7 hk).trans hρ⟩);simpa [View.lo,View.app] using this
theorem jf.abR {c:Cz} {st:St} {w:World} {x:CV} {cs:List CV} {vs:List Value} (h:jf c st w (x::cs) vs):∃v l,vs=v::l∧rj c st w x v∧jf c st w cs l:=by
 obtain ⟨h1,h2⟩:=h
 cases vs with
 |nil=>simp at h1
 |cons v l=>exact ⟨v,l,rfl,h2 0 x v rfl rfl,by simpa using h1,fun i y u hy hu=>h2 (i+1) y u (by simpa using hy) (by simpa using hu)⟩
theorem qu {α:Type} (l m:List α) (n:Nat):nth (l++m) n=if n<l.length then nth l n else nth m (n-l.length):=by
 simp only [og]
 by_cases h:n<l.length
 ·rw [if_pos h,List.getElem?_append_left h]
 ·rw [if_neg h,List.getElem?_append_right (by omega)]
theorem El {w0:World} {mu:Mu} {c:Cz} {st:St} {a:Act} {w:World} (h:Rel w0 mu c st a w) {s j g:Nat} {A:nY} (hA:cT st s j g=some A):fQ c w s j A:=by
 obtain ⟨sl,h1,_,h3⟩:=dF hA;exact h.ca s j sl A h1 h3
theorem Em {st:St} {own:Bool} {q:RT} {y:aO q} {off:Nat} {o:OV} {u:Option Lb} {r:List (Nat×Nat)} (h:lK st own (.oe q y off)=some (o,u,r)):o=.oe q [y]∧u=none∧r=[]:=by
 unfold lK at h;obtain ⟨_,h⟩:=bM h;simp only [Option.some.injEq,Prod.mk.injEq] at h;exact ⟨h.1.symm,h.2.1.symm,h.2.2.symm⟩
theorem Cq {st:St} {own:Bool} {q:RT} {y:List (aO q)} {off:Nat} {o:OV} {u:Option Lb} {r:List (Nat×Nat)} (h:lK st own (.yc q y off)=some (o,u,r)):o=.oe q y∧u=none∧r=[]:=by
 unfold lK at h;obtain ⟨_,h⟩:=bM h;simp only [Option.some.injEq,Prod.mk.injEq] at h;exact ⟨h.1.symm,h.2.1.symm,h.2.2.symm⟩
theorem Sz {w0:World} {mu:Mu} {c:Cz} {st:St} {a:Act} {w:World} (h:Rel w0 mu c st a w) {own:Bool} {ρ:Lb→Option Lb} {f:Nat→Lb} {j:Nat} {x:CV} {v:Value} (hx:rj c st w x v) {o:OV} {u:Option Lb} {r:List (Nat×Nat)}
  (hc:lK st own x=some (o,u,r)) (hu:∀l,u=some l→ρ l=some (f j)) (hr:∀p∈r,ρ (.sp p.1 p.2)=none) {os:List OV} {l:List Value} (hh:cN (c.map ρ) w f (j+1) os l):cN (c.map ρ) w f j (o::os) (v::l):=by
 cases x with
 |int k n=>
  simp only [lK,Option.some.injEq,Prod.mk.injEq] at hc;obtain ⟨rfl,rfl,_⟩:=hc;have e:v=.int k n:=hx;exact ⟨l,by rw [e],hh⟩
 |bool n=>
  simp only [lK,Option.some.injEq,Prod.mk.injEq] at hc;obtain ⟨rfl,rfl,_⟩:=hc;have e:v=.bool n:=hx;exact ⟨l,by rw [e],hh⟩
 |str n=>
  simp only [lK,Option.some.injEq,Prod.mk.injEq] at hc;obtain ⟨rfl,rfl,_⟩:=hc;have e:v=.string n:=hx;exact ⟨l,by rw [e],hh⟩
 |gJ=>
  simp only [lK,Option.some.injEq,Prod.mk.injEq] at hc;obtain ⟨rfl,rfl,_⟩:=hc;have e:v=.slice none 0 0:=hx;exact ⟨l,by rw [e],hh⟩
 |shr q xs=>
  simp only [lK,Option.some.injEq,Prod.mk.injEq] at hc;obtain ⟨rfl,rfl,_⟩:=hc;have e:eD w c.ok (.sl q) v xs:=hx;exact ⟨v,l,rfl,eD.stays ⟨Nat.le_refl _,fun _ _ _=>rfl,fun b _ hb=>Cz.xN hb⟩ _ _ _ e,hh⟩
 |nn q xs=>
  simp only [lK,Option.some.injEq,Prod.mk.injEq] at hc;obtain ⟨rfl,rfl,_⟩:=hc;have e:eD w c.ok (.sl q) v xs:=hx.1;exact ⟨v,l,rfl,eD.stays ⟨Nat.le_refl _,fun _ _ _=>rfl,fun b _ hb=>Cz.xN hb⟩ _ _ _ e,hh⟩
 |ref s k g vw=>
  unfold lK at hc;simp only at hc
  cases hA:cT st s k g with
  |none=>simp [hA] at hc
  |some A=>
   simp only [hA] at hc;have ha:=El h hA;have hs:=hx.2.2 A hA;have ajP:A.md.Qd=false:=by cases hm:A.md<;>simp_all [Md.Qd]
   have Hq:=ajP;simp only [ajP,cond_false] at hc
   cases hb:(own&&A.own&&(A.md.is .sh||vw.isFull)) with
   |true=>
    simp only [hb,cond_true,Option.some.injEq,Prod.mk.injEq] at hc;obtain ⟨rfl,rfl,rfl⟩:=hc;rw [Bool.and_eq_true,Bool.and_eq_true,Bool.or_eq_true] at hb;obtain ⟨lc,g1⟩:=WZ ha hb.1.2 hx.1 hs (hu _ rfl) hb.2;exact ⟨v,l,rfl,⟨lc,g1⟩,hh⟩
   |false=>
    simp only [hb,cond_false,Option.some.injEq,Prod.mk.injEq] at hc;obtain ⟨rfl,rfl,rfl⟩:=hc;refine ⟨v,l,rfl,?_,hh⟩;refine D7 ha hs (fun b hb=>Cz.xN hb) (fun b _ hk => ?_) Hq;exact (Cz.o7 hk).trans (hr (s,k) (by simp))
 |bad=>simp [lK] at hc
 |Qk=>simp [lK] at hc
 |ptr _ _ _=>simp [lK] at hc
 |N1 _ _ _ _ _=>simp [lK] at hc
 |oe q y off=>
  unfold lK at hc;obtain ⟨h1,hc⟩:=bM hc;have h1:=Nat.eq_of_beq_eq_true h1;subst h1;simp only [Option.some.injEq,Prod.mk.injEq] at hc;obtain ⟨rfl,rfl,_⟩:=hc;obtain ⟨b,o,e1,e2,e3,e4⟩:=hx;refine ⟨v,l,rfl,⟨b,o,e1,e2,Cz.xN e3,fun z hz => ?_⟩,hh⟩;simp at hz;subst hz;exact fP.stays ⟨Nat.le_refl _,fun _ _ _=>rfl,fun b _ hb=>Cz.xN hb⟩ _ _ _ _ rfl e4
 |yc q ys off=>
  unfold lK at hc;obtain ⟨h1,hc⟩:=bM hc;have h1:=Nat.eq_of_beq_eq_true h1;subst h1;simp only [Option.some.injEq,Prod.mk.injEq] at hc;obtain ⟨rfl,rfl,_⟩:=hc;obtain ⟨b,o,e1,e2,e3,e4⟩:=hx;exact ⟨v,l,rfl,⟨b,o,e1,e2,Cz.xN e3,fun z hz=>fP.stays ⟨Nat.le_refl _,fun _ _ _=>rfl,fun b _ hb=>Cz.xN hb⟩ _ _ _ _ rfl (e4 z hz)⟩,hh⟩
 |fn g rs ys=>
  simp only [lK,Option.some.injEq,Prod.mk.injEq] at hc;obtain ⟨rfl,rfl,_⟩:=hc;have hx:FnAt w c.ok g rs v ys:=hx;exact ⟨v,l,rfl,hx.stays ⟨Nat.le_refl _,fun _ _ _=>rfl,fun b _ hb=>Cz.xN hb⟩,hh⟩
theorem SA {w0:World} {mu:Mu} {c:Cz} {st:St} {a:Act} {w:World} (h:Rel w0 mu c st a w) {own:Bool} {ρ:Lb→Option Lb} {f:Nat→Lb}:(cs:List CV)→(vs:List Value)→(j:Nat)→jf c st w cs vs→{os:List OV}→{u:List (Option Lb)}→{r:List (Nat×Nat)}→
  jJ st own cs=some (os,u,r)→(∀k l,nth u k=some (some l)→ρ l=some (f (j+k)))→(∀p∈r,ρ (.sp p.1 p.2)=none)→cN (c.map ρ) w f j os vs
 | [],vs,j,hl,os,u,r,he,_,_=>by
  simp only [jJ,Option.some.injEq,Prod.mk.injEq] at he;obtain ⟨rfl,rfl,rfl⟩:=he;have:=hl.1;simp at this;exact List.length_eq_zero_iff.1 this.symm
 |x::cs,vs,j,hl,os,u,r,he,hu,hr=>by
  obtain ⟨v,l,rfl,hx,Cm⟩:=hl.abR;unfold jJ at he
  cases hc:lK st own x with
  |none=>simp [hc] at he
  |some p=>
   obtain ⟨o,u1,r1⟩:=p
   cases hq:jJ st own cs with
   |none=>simp [hc,hq] at he
   |some q=>
    obtain ⟨Fp,us,rs⟩:=q;simp only [hc,hq,Option.some.injEq,Prod.mk.injEq] at he;obtain ⟨rfl,rfl,rfl⟩:=he;refine Sz h hx hc (fun l hl=>hu 0 l (by rw [hl];rfl)) (fun p hp=>hr p (List.mem_append_left _ hp)) ?_;refine SA h cs l (j+1) Cm hq (fun k' l' hk => ?_) (fun p hp=>hr p (List.mem_append_right _ hp));have:=hu (k'+1) l' hk
    rwa [show j+(k'+1)=j+1+k' by omega] at this
end Go.TM
namespace Go.TM
open Go Go.RowKit
def Lb.real:Lb→Bool
 |.box _=>true
 |.sp _ _=>true
 |_=>false
theorem Lb.En {x y:Lb} (hx:x.real=true):Lb.same x y=true↔x=y:=by
 cases x<;>cases y<;>simp [Lb.same,Lb.real] at hx ⊢
theorem tc:(l:List Lb)→(∀x∈l,x.real=true)→yP l=true→l.Nodup
 | [],_,_=>List.nodup_nil
 |x::l,hr,h=>by
  simp only [yP,Bool.and_eq_true,List.all_eq_true] at h;refine List.nodup_cons.2 ⟨fun hm => ?_,tc l (fun y hy=>hr y (List.mem_cons_of_mem _ hy)) h.2⟩;have:=h.1 x hm;rw [(Lb.En (hr x List.mem_cons_self)).2 rfl] at this
  cases this
noncomputable def look:List (Lb×Lb)→Lb→Option Lb
 | [],_=>none
 |(x,y)::t,l=>have:=Classical.propDecidable (x=l);if x=l then some y else look t l
theorem Eo:(t:List (Lb×Lb))→(t.map (·.1)).Nodup→{p:Lb×Lb}→p∈t→look t p.1=some p.2
 | [],_,_,h=>by simp at h
 |(x,y)::t,hn,p,h=>by
  unfold look;simp only [List.map_cons,List.nodup_cons] at hn
  by_cases e:x=p.1
  ·rw [if_pos e];rcases List.mem_cons.1 h with rfl | h
   ·rfl
   ·exact absurd (List.mem_map.2 ⟨p,h,e.symm⟩) hn.1
  ·rw [if_neg e];rcases List.mem_cons.1 h with rfl | h
   ·exact absurd rfl e
   ·exact Eo t hn.2 h
theorem Cr:(t:List (Lb×Lb))→{l y:Lb}→look t l=some y→(l,y)∈t
 | [],_,_,h=>by simp [look] at h
 |(x,z)::t,l,y,h=>by
  unfold look at h
  by_cases e:x=l
  ·rw [if_pos e] at h
   cases h
   subst e;exact List.mem_cons_self
  ·rw [if_neg e] at h;exact List.mem_cons_of_mem _ (Cr t h)
def Ep (f:Nat→Lb):(j:Nat)→List (Option Lb)→List (Lb×Lb)
 |_,[]=>[]
 |j,some l::ls=>(l,f j)::Ep f (j+1) ls
 |j,none::ls=>Ep f (j+1) ls
theorem Er (f:Nat→Lb):(j:Nat)→(ls:List (Option Lb))→(Ep f j ls).map (·.1)=dS ls
 |_,[]=>rfl
 |j,some l::ls=>by simp [Ep,dS,Er f (j+1) ls]
 |j,none::ls=>by simp [Ep,dS,Er f (j+1) ls]
theorem H7 (f:Nat→Lb):(j:Nat)→(ls:List (Option Lb))→∀p∈Ep f j ls,∃k,p.2=f k
 |_,[],p,h=>by simp [Ep] at h
 |j,some l::ls,p,h=>by
  simp only [Ep,List.mem_cons] at h;rcases h with rfl | h
  ·exact ⟨j,rfl⟩
  ·exact H7 f (j+1) ls p h
 |j,none::ls,p,h=>H7 f (j+1) ls p h
theorem Br (f:Nat→Lb):(j:Nat)→(ls:List (Option Lb))→∀k l,nth ls k=some (some l)→(l,f (j+k))∈Ep f j ls
 |_,[],k,l,h=>by simp at h
 |j,x::ls,0,l,h=>by
  simp only [nth,Option.some.injEq] at h;subst h;exact List.mem_cons_self
 |j,x::ls,k+1,l,h=>by
  have:=Br f (j+1) ls k l h;rw [show j+(k+1)=j+1+k by omega]
  cases x with
  |none=>exact this
  |some x=>exact List.mem_cons_of_mem _ this
theorem lN {l:Lb}:{ls:List (Option Lb)}→l∈dS ls↔some l∈ls
 | []=>by simp [dS]
 |none::ls=>by simp [dS,lN (ls:=ls)]
 |some x::ls=>by simp [dS,lN (ls:=ls)]
def QD (c:Cz):Option CV→Loc
 |some (.ref a j _ _)=>c.lc a j
 |_=>.nil
def Gx (c:Cz):V→Nat→Loc
 |.one (.ref a j _ _)=>fun _=>c.lc a j
 |.agg cs=>fun k=>QD c cs[k]?
 |_=>fun _=>.nil
theorem SB {st:St} {own:Bool}:(cs:List CV)→{os:List OV}→{u:List (Option Lb)}→{r:List (Nat×Nat)}→jJ st own cs=some (os,u,r)→∀(k:Nat) (o:OV),os[k]?=some o→∃x u' r',cs[k]?=some x∧lK st own x=some (o,u',r')∧nth u k=some u'
 | [],_,_,_,h=>by
  simp only [jJ,Option.some.injEq,Prod.mk.injEq] at h;obtain ⟨rfl,rfl,_⟩:=h;intro k o hk;simp at hk
 |x::cs,os,u,r,h=>by
  unfold jJ at h
  cases hc:lK st own x with
  |none=>simp [hc] at h
  |some p=>
   obtain ⟨o,u1,r1⟩:=p
   cases hq:jJ st own cs with
   |none=>simp [hc,hq] at h
   |some q=>
    obtain ⟨Fp,us,rs⟩:=q;simp only [hc,hq,Option.some.injEq,Prod.mk.injEq] at h;obtain ⟨rfl,rfl,_⟩:=h;intro k o' hk
    cases k with
    |zero=>
     simp only [List.getElem?_cons_zero,Option.some.injEq] at hk;subst hk;exact ⟨x,u1,r1,rfl,hc,rfl⟩
    |succ k=>
     obtain ⟨y,u',r',h1,h2,h3⟩:=SB cs hq k o' (by simpa using hk);exact ⟨y,u',r',by simpa using h1,h2,h3⟩
theorem W0 {st:St} {own:Bool} {x:CV} {A:nY} {u:Option Lb} {r:List (Nat×Nat)} (h:lK st own x=some (.own A,u,r)):∃a j g w B,x=.ref a j g w∧cT st a j g=some B∧A={ B with xs:=w.app B.xs }∧u=some (.sp a j)∧B.own=true:=by
 cases x with
 |ref a j g w=>
  unfold lK at h;simp only at h
  cases hA:cT st a j g with
  |none=>simp [hA] at h
  |some B=>
   simp only [hA] at h
   cases hm:B.md.Qd with
   |true=>simp [hm] at h
   |false=>
   simp only [hm,cond_false] at h
   cases hb:(own&&B.own&&(B.md.is .sh||w.isFull)) with
   |false=>simp [hb] at h
   |true=>
    simp only [hb,cond_true,Option.some.injEq,Prod.mk.injEq] at h;obtain ⟨h1,rfl,_⟩:=h;injection h1 with h1;rw [Bool.and_eq_true,Bool.and_eq_true] at hb;exact ⟨a,j,g,w,B,rfl,hA,h1.symm,rfl,hb.1.2⟩
 |oe q y off=>exact absurd (Em h).1 (by simp)
 |yc q y off=>exact absurd (Cq h).1 (by simp)
 |_=>simp [lK] at h
theorem T3 {st:St} {own:Bool} {x:CV} {u:Option Lb} {r:List (Nat×Nat)} (h:lK st own x=some (.gJ,u,r)):x=.gJ:=by
 cases x with
 |ref a j g w=>
  unfold lK at h;simp only at h
  cases hA:cT st a j g with
  |none=>simp [hA] at h
  |some B=>
   simp only [hA] at h
   cases hm:B.md.Qd with
   |true=>simp [hm] at h
   |false=>
   simp only [hm,cond_false] at h
   cases hb:(own&&B.own&&(B.md.is .sh||w.isFull))<;>simp [hb] at h
 |gJ=>rfl
 |oe q y off=>exact absurd (Em h).1 (by simp)
 |yc q y off=>exact absurd (Cq h).1 (by simp)
 |_=>simp [lK] at h
theorem K7 {st:St} {own:Bool} {x:CV} {o:OV} {u:Option Lb} {r:List (Nat×Nat)} (h:lK st own x=some (o,u,r)):∀l,u=some l→∃s j,l=.sp s j:=by
 cases x with
 |ref a j g w=>
  unfold lK at h;simp only at h
  cases hA:cT st a j g with
  |none=>simp [hA] at h
  |some A=>
   simp only [hA] at h
   cases hm:A.md.Qd with
   |true=>simp [hm] at h
   |false=>
   simp only [hm,cond_false] at h
   cases hb:(own&&A.own&&(A.md.is .sh||w.isFull))<;>simp only [hb,cond_true,cond_false,Option.some.injEq,Prod.mk.injEq] at h<;>obtain ⟨_,rfl,_⟩:=h<;>simp
 |oe q y off=>obtain ⟨_,rfl,_⟩:=Em h;simp
 |yc q y off=>obtain ⟨_,rfl,_⟩:=Cq h;simp
 |_=>simp [lK] at h<;>(try (obtain ⟨_,rfl,_⟩:=h;simp))
theorem Cs {st:St} {own:Bool}:(cs:List CV)→{os:List OV}→{u:List (Option Lb)}→{r:List (Nat×Nat)}→jJ st own cs=some (os,u,r)→∀l∈dS u,∃s j,l=.sp s j
 | [],_,_,_,h=>by
  simp only [jJ,Option.some.injEq,Prod.mk.injEq] at h;obtain ⟨_,rfl,_⟩:=h;simp [dS]
 |x::cs,os,u,r,h=>by
  unfold jJ at h
  cases hc:lK st own x with
  |none=>simp [hc] at h
  |some p=>
   obtain ⟨o,u1,r1⟩:=p
   cases hq:jJ st own cs with
   |none=>simp [hc,hq] at h
   |some q=>
    obtain ⟨Fp,us,rs⟩:=q;simp only [hc,hq,Option.some.injEq,Prod.mk.injEq] at h;obtain ⟨_,rfl,_⟩:=h;intro l hl;rw [lN] at hl;rcases List.mem_cons.1 hl with hl | hl
    ·exact K7 hc l hl.symm
    ·exact Cs cs hq l (lN.2 hl)
theorem T4 {st:St} {own:Bool} (cs:List CV) {os:List OV} {u:List (Option Lb)} {r:List (Nat×Nat)} (h:jJ st own cs=some (os,u,r)):∀l∈dS u,l.real=true:=by
 intro l hl;obtain ⟨s,j,rfl⟩:=Cs cs h l hl;rfl
def mB (i:Nat) (av:AV) (bx:List Lb) (u:List (Option Lb)):List (Lb×Lb):=
 bx.map (fun l=>(l,.yd i))++Ep (.dC i) 0 u
theorem qv (i:Nat) (av:AV) (bx:List Lb) (u:List (Option Lb)):(mB i av bx u).map (·.1)=bx++dS u:=by
 unfold mB;rw [List.map_append,Er,List.map_map]
 congr 1
 exact List.map_id bx
theorem qw (i:Nat) (av:AV) (bx:List Lb) (u:List (Option Lb)):∀p∈mB i av bx u,p.2.om=true:=by
 intro p hp;unfold mB at hp;rcases List.mem_append.1 hp with hp | hp
 ·obtain ⟨l,_,rfl⟩:=List.mem_map.1 hp;rfl
 ·obtain ⟨k,e⟩:=H7 _ _ _ p hp;rw [e];rfl
theorem T5 {w0:World} {mu:Mu} {c:Cz} {st:St} {a:Act} {w:World} (h:Rel w0 mu c st a w) {m:Pm} {v:V} {x:Value} (hx:iB c st w v x) {av:AV} {u q:List Lb} {r:List (Nat×Nat)} (he:j5 st m v=some (av,u,q,r)) (i:Nat) :
  (∀l∈u,l.real=true)∧(∀l∈q,l∈u)∧∃tb:List (Lb×Lb),tb.map (·.1)=u∧(∀p∈tb,p.2.om=true)∧∀ρ:Lb→Option Lb,(∀p∈tb,ρ p.1=some p.2)→(∀p∈r,ρ (.sp p.1 p.2)=none)→xp (c.map ρ) w i (Gx c v) av x:=by
 have vals:∀(own:Bool) (cs:List CV) (os:List OV) (us:List (Option Lb)) (rs:List (Nat×Nat)) (vs:List Value),jf c st w cs vs→jJ st own cs=some (os,us,rs)→(∀l∈dS us,l.real=true)∧
   ∀ρ:Lb→Option Lb,(∀p∈Ep (.dC i) 0 us,ρ p.1=some p.2)→(∀p∈rs,ρ (.sp p.1 p.2)=none)→cN (c.map ρ) w (.dC i) 0 os vs:=by
  intro own cs os us rs vs hl hq;refine ⟨T4 cs hq,fun ρ hp hr=>SA h cs vs 0 hl hq (fun k l hk => ?_) hr⟩;have:=hp _ (Br (.dC i) 0 us k l hk);simpa using this
 have single:∀(own:Bool) (cx:CV) (os:List OV) (us:List (Option Lb)) (rs:List (Nat×Nat)),rj c st w cx x→jJ st own [cx]=some (os,us,rs)→(∀l∈dS us,l.real=true)∧(∀l∈dS us,l∈dS us)∧
   ∃tb:List (Lb×Lb),tb.map (·.1)=dS us∧(∀p∈tb,p.2.om=true)∧∀ρ:Lb→Option Lb,(∀p∈tb,ρ p.1=some p.2)→(∀p∈rs,ρ (.sp p.1 p.2)=none)→xp (c.map ρ) w i (Gx c (.one cx)) (.val false os) x:=by
  intro own cx os us rs hl hq;obtain ⟨g1,g2⟩:=vals own [cx] os us rs [x] ⟨rfl,fun k y z hy hz=>by
   cases k with
   |zero=>simp at hy hz;subst hy hz;exact hl
   |succ k=>simp at hy⟩ hq
  exact ⟨g1,fun _ h=>h,mB i (.val false os) [] us,qv _ _ _ _,qw _ _ _ _,fun ρ hp hr=>g2 ρ (fun p mj=>hp p (by simpa [mB] using mj)) hr⟩
 cases v with
 |rb _=>simp [j5] at he
 |agg cs=>
  obtain ⟨vs,rfl,hl⟩:=hx;have other:(match jJ st m.sg cs with | some (os,u,r)=>some (AV.val true os,dS u,dS u,r) | none=>none)=some (av,u,q,r)→(∀l∈u,l.real=true)∧(∀l∈q,l∈u)∧
    ∃tb:List (Lb×Lb),tb.map (·.1)=u∧(∀p∈tb,p.2.om=true)∧∀ρ:Lb→Option Lb,(∀p∈tb,ρ p.1=some p.2)→(∀p∈r,ρ (.sp p.1 p.2)=none)→xp (c.map ρ) w i (Gx c (.agg cs)) av (.agg vs):=by
   intro he
   cases hq:jJ st m.sg cs with
   |none=>simp [hq] at he
   |some p=>
    obtain ⟨os,us,rs⟩:=p;simp only [hq,Option.some.injEq,Prod.mk.injEq] at he;obtain ⟨rfl,rfl,rfl,rfl⟩:=he;obtain ⟨g1,g2⟩:=vals _ _ _ _ _ _ hl hq;exact ⟨g1,fun _ h=>h,mB i (.val true os) [] us,qv _ _ _ _,qw _ _ _ _,fun ρ hp hr=>⟨vs,rfl,g2 ρ (fun p mj=>hp p (by simpa [mB] using mj)) hr⟩⟩
  unfold j5 at he
  cases m with
  |shr=>exact other he
  |own=>exact other he
  |pick _=>exact other he
  |io=>exact other he
  |dX=>
   simp only at he
   cases hq:jJ st true cs with
   |none=>simp [hq] at he
   |some p=>
    obtain ⟨os,us,rs⟩:=p;simp only [hq] at he;obtain ⟨sw,CL⟩:=bM he;simp only [Option.some.injEq,Prod.mk.injEq] at CL;obtain ⟨rfl,rfl,rfl,rfl⟩:=CL;obtain ⟨g1,g2⟩:=vals _ _ _ _ _ _ hl hq;refine ⟨g1,by simp,mB i (.val true os) [] us,qv _ _ _ _,qw _ _ _ _,fun ρ hp hr=>⟨vs,rfl,g2 ρ (fun p mj=>hp p (by simpa [mB] using mj)) hr,fun j o x ho hxj => ?_⟩⟩;obtain ⟨cx,u',r',k1,k2,k3⟩:=SB cs hq j o ho;show WY (c.map ρ) w i (fun k=>QD c cs[k]?) j o x
    cases o with
    |gJ=>
     have:=T3 k2;subst this;show QD c cs[j]?=.nil;rw [k1];rfl
    |own A=>
     obtain ⟨s,k,g,vw,B,rfl,hA,rfl,rfl,hB⟩:=W0 k2;have Ef:CV.ref s k g vw∈cs:=List.mem_of_getElem? k1;have Kb:=List.all_eq_true.1 sw _ Ef;have W2:vw=.full:=by
      unfold WA at Kb;rw [Bool.and_eq_true] at Kb
      cases vw with
      |full=>rfl
      |«from» _=>cases Kb.1
      |sub _ _=>cases Kb.1
     subst W2;have hxr:=hl.2 j _ _ k1 hxj;have hs:=hxr.2.2 B hA;have ha:=El h hA;have hρ:ρ (.sp s k)=some (.dC i j):=hp (.sp s k,.dC i j) (by
      have:=Br (.dC i) 0 us j (.sp s k) k3;simpa [mB] using this)
     have apB:(fun k=>QD c cs[k]?) j=c.lc s k:=by
      show QD c cs[j]?=_;rw [k1];rfl
     show OwnAt (c.map ρ) w (.dC i j) ((fun k=>QD c cs[k]?) j) { B with xs:=View.full.app B.xs } x;rw [apB];refine ⟨hxr.1,hs,hB,?_⟩;show match c.lc s k with
      |.nil=>B.xs=[]
      |.at b off cap=>_
     unfold fQ at ha
     cases nZ:c.lc s k with
     |nil=>rw [nZ] at ha;exact ha
     |«at» b off cap=>
      rw [nZ] at ha;obtain ⟨h0,h2,h3,h4⟩:=ha;rw [hB] at h0;exact ⟨(Cz.o7 h0).trans hρ,h2,h3,h4.map hρ⟩
    |_=>trivial
 |one cx=>
  cases cx with
  |ptr b g off=>
   unfold j5 at he;simp only at he
   cases hb:gi st b g with
   |none=>simp [hb] at he
   |some cs=>
    simp only [hb] at he
    cases hq:jJ st true cs with
    |none=>simp [hq] at he
    |some p=>
     obtain ⟨os,us,rs⟩:=p;simp only [hq] at he;obtain ⟨ho,CL⟩:=bM he;have ho1:=Nat.eq_of_beq_eq_true ho;simp only [Option.some.injEq,Prod.mk.injEq] at CL;obtain ⟨rfl,rfl,rfl,rfl⟩:=CL;subst ho1;obtain ⟨sl,k1,k2,k3⟩:=ko hb;obtain ⟨h1,vs,ty,h2,h3⟩:=h.boxes b sl cs k1 k3;obtain ⟨g1,g2⟩:=vals _ _ _ _ _ _ h3 hq;refine ⟨fun l hl => ?_,fun l hl=>List.mem_cons_of_mem _ hl,mB i (.box os) [.box b] us,by rw [qv];rfl,qw _ _ _ _,fun ρ hp hr=>⟨c.bx b,vs,ty,hx.2.2 cs hb,?_,h2,g2 ρ (fun p mj=>hp p (List.mem_append_right _ mj)) hr⟩⟩
     ·rcases List.mem_cons.1 hl with rfl | hl
      ·rfl
      ·exact g1 l hl
     ·exact (Cz.o7 h1).trans (hp (.box b,.yd i) (by simp [mB]))
  |ref s j g vw=>
   unfold j5 at he;have other:(match jJ st m.sg [.ref s j g vw] with | some (os,u,r)=>some (AV.val false os,dS u,dS u,r) | none=>none)=some (av,u,q,r)→(∀l∈u,l.real=true)∧(∀l∈q,l∈u)∧
     ∃tb:List (Lb×Lb),tb.map (·.1)=u∧(∀p∈tb,p.2.om=true)∧∀ρ:Lb→Option Lb,(∀p∈tb,ρ p.1=some p.2)→(∀p∈r,ρ (.sp p.1 p.2)=none)→xp (c.map ρ) w i (Gx c (.one (.ref s j g vw))) av x:=by
    intro he
    cases hq:jJ st m.sg [.ref s j g vw] with
    |none=>simp [hq] at he
    |some p=>
     obtain ⟨os,us,rs⟩:=p;simp only [hq,Option.some.injEq,Prod.mk.injEq] at he;obtain ⟨rfl,rfl,rfl,rfl⟩:=he;exact single _ _ _ _ _ hx hq
   cases m with
   |shr=>exact other he
   |own=>exact other he
   |pick _=>exact other he
   |dX=>exact other he
   |io=>
    cases vw with
    |full=>
     cases hA:cT st s j g with
     |none=>simp [hA] at he
     |some A=>
      simp only [hA] at he;obtain ⟨ho,CL⟩:=bM he;rw [Bool.and_eq_true] at ho;have ho:=ho.1;simp only [Option.some.injEq,Prod.mk.injEq] at CL;obtain ⟨rfl,rfl,rfl,rfl⟩:=CL;refine ⟨by simp [Lb.real],by simp,[(.sp s j,.dC i 0)],rfl,by simp [Lb.om],fun ρ hp _ => ?_⟩;have ha:=El h hA;have hs:=hx.2.2 A hA;have hρ:ρ (.sp s j)=some (.dC i 0):=hp (.sp s j,.dC i 0) (by simp);refine ⟨hx.1,hs,ho,?_⟩;show match c.lc s j with
       |.nil=>A.xs=[]
       |.at b off cap=>_
      unfold fQ at ha
      cases nZ:c.lc s j with
      |nil=>rw [nZ] at ha;exact ha
      |«at» b off cap=>
       rw [nZ] at ha;obtain ⟨h0,h2,h3,h4⟩:=ha;rw [ho] at h0;exact ⟨(Cz.o7 h0).trans hρ,h2,h3,h4.map hρ⟩
    |«from» _=>simp at he
    |sub _ _=>simp at he
  |_=>
   unfold j5 at he;simp only at he
   split at he
   ·rename_i os us rs hq;simp only [Option.some.injEq,Prod.mk.injEq] at he;obtain ⟨rfl,rfl,rfl,rfl⟩:=he;exact single _ _ _ _ _ hx hq
   ·cases he
theorem K8 {w0:World} {mu:Mu} {c:Cz} {st:St} {a:Act} {w:World} (h:Rel w0 mu c st a w):(ms:List (Pm×V))→(i:Nat)→(xs:List Value)→ms.length=xs.length→(∀(k:Nat) (m:Pm×V) (x:Value),ms[k]?=some m→xs[k]?=some x→iB c st w m.2 x)→
  {gq:List AV}→{u q:List Lb}→{r:List (Nat×Nat)}→pK st ms=some (gq,u,q,r)→
  (∀l∈u,l.real=true)∧(∀l∈q,l∈u)∧∃tb:List (Lb×Lb),tb.map (·.1)=u∧(∀p∈tb,p.2.om=true)∧gq.length=ms.length∧
   ∀(ρ:Lb→Option Lb) (lc:Nat→Nat→Loc),(∀(k:Nat) (m:Pm×V),ms[k]?=some m→lc (i+k)=Gx c m.2)→(∀p∈tb,ρ p.1=some p.2)→(∀p∈r,ρ (.sp p.1 p.2)=none)→De (c.map ρ) w lc i gq xs
 | [],i,xs,hl,hx,gq,u,q,r,he=>by
  simp only [pK,Option.some.injEq,Prod.mk.injEq] at he;obtain ⟨rfl,rfl,rfl,rfl⟩:=he;simp at hl;exact ⟨by simp,by simp,[],rfl,by simp,rfl,fun ρ lc _ _ _=>List.length_eq_zero_iff.1 hl.symm⟩
 |(m,v)::ms,i,xs,hl,hx,gq,u,q,r,he=>by
  cases xs with
  |nil=>simp at hl
  |cons x xs=>
   unfold pK at he
   cases h1:j5 st m v with
   |none=>simp [h1] at he
   |some p1=>
    obtain ⟨av,u1,q1,r1⟩:=p1
    cases h2:pK st ms with
    |none=>simp [h1,h2] at he
    |some p2=>
     obtain ⟨ac9,u2,q2,r2⟩:=p2;simp only [h1,h2,Option.some.injEq,Prod.mk.injEq] at he;obtain ⟨rfl,rfl,rfl,rfl⟩:=he;obtain ⟨a1,a2,ta,a4,a5,a3⟩:=T5 h (hx 0 (m,v) x rfl rfl) h1 i;obtain ⟨b1,b2,tb,b3,b4,b6,b5⟩:=K8 h ms (i+1) xs (by simpa using hl) (fun k m x hm Sq=>hx (k+1) m x (by simpa using hm) (by simpa using Sq)) h2;refine ⟨fun l hl => ?_,fun l hl => ?_,ta++tb,by simp [a4,b3],fun p hp => ?_,by simp [b6],fun ρ lc nZ hp hr => ?_⟩
     ·rcases List.mem_append.1 hl with hl | hl
      ·exact a1 l hl
      ·exact b1 l hl
     ·rcases List.mem_append.1 hl with hl | hl
      ·exact List.mem_append_left _ (a2 l hl)
      ·exact List.mem_append_right _ (b2 l hl)
     ·rcases List.mem_append.1 hp with hp | hp
      ·exact a5 p hp
      ·exact b4 p hp
     ·refine ⟨x,xs,rfl,?_,b5 ρ lc (fun k m hm => ?_) (fun p mj=>hp p (List.mem_append_right _ mj)) (fun p mj=>hr p (List.mem_append_right _ mj))⟩
      ·have:=nZ 0 (m,v) rfl;simp only [Nat.add_zero] at this;rw [this];exact a3 ρ (fun p mj=>hp p (List.mem_append_left _ mj)) (fun p mj=>hr p (List.mem_append_left _ mj))
      ·have:=nZ (k+1) m (by simpa using hm)
       rwa [show i+(k+1)=i+1+k by omega] at this
end Go.TM
namespace Go.TM
open Go Go.RowKit
structure oq (X:Lb→Prop) (w0:World) (mu:Mu) (c:Cz) (st:St) (a:Act) (w:World):Prop where
 jy:∀t,iB c st w (dR st t) (a.eval (.tmp t))
 boxes:∀s sl cs,¬X (.box s)→nth st s=some sl→sl.box=some cs→Bl c st w s cs
 ca:∀s j sl A,¬X (.sp s j)→nth st s=some sl→nth sl.ca j=some (some A)→fQ c w s j A
 owned:∀b l,c.own b=some l→b<w.heap.size∧(l=.out∨w0.heap.size≤b∨mu.m b)
 free:∀b,b<w0.heap.size→c.own b=none→mu.m b∨mu.ok b
 kept:w.os=w0.os∧w.tape=w0.tape∧w.output=w0.output∧w0.heap.size≤w.heap.size
 old:∀k,k<w0.heap.size→¬mu.m k→w.heap[k]?=w0.heap[k]?
 plain:a.defers=[]
 iC:∀p∈mu.an,aai c st p
theorem oq.rel {w0:World} {mu:Mu} {c:Cz} {st:St} {a:Act} {w:World} (h:oq (fun _=>False) w0 mu c st a w):Rel w0 mu c st a w:=
 ⟨h.jy,fun s sl cs=>h.boxes s sl cs id,fun s j sl A=>h.ca s j sl A id,h.owned,h.free,h.kept,h.old,h.plain,h.iC⟩
structure Gy (ρ:Lb→Lb):Prop where
 other:∀l,(l=.out∨l.real=true)→ρ l=l
def Cz.iD (c:Cz) (ρ:Lb→Lb) (bx:Nat→Nat) (lc:Nat→Nat→Loc):Cz:={ bx:=bx,lc:=lc,own:=fun b=>(c.own b).map ρ }
theorem Cz.td {c:Cz} {ρ:Lb→Lb} {bx:Nat→Nat} {lc:Nat→Nat→Loc} {b:Nat}:(c.iD ρ bx lc).ok b↔c.ok b:=by
 unfold Cz.ok Cz.iD;simp
theorem sx (c:Cz) (w:World) (ρ:Lb→Lb) (bx:Nat→Nat) (lc:Nat→Nat→Loc):lL w w c.ok (c.iD ρ bx lc).ok:=⟨Nat.le_refl _,fun _ _ _=>rfl,fun _ _ h=>Cz.td.2 h⟩
theorem oq.iD {X X':Lb→Prop} {w0:World} {mu:Mu} {c:Cz} {st bV:St} {a:Act} {w:World} (h:oq X w0 mu c st a w) {ρ:Lb→Lb} {bx:Nat→Nat} {lc:Nat→Nat→Loc} (hρ:Gy ρ)
  (mo:Fw c st w (c.iD ρ bx lc) bV w) (ajQ:∀t,iB (c.iD ρ bx lc) bV w (dR bV t) (a.eval (.tmp t)))
  (apC:∀s sl cs,¬X' (.box s)→nth bV s=some sl→sl.box=some cs→Bl (c.iD ρ bx lc) bV w s cs)
  (Fy:∀s j sl A,¬X' (.sp s j)→nth bV s=some sl→nth sl.ca j=some (some A)→fQ (c.iD ρ bx lc) w s j A):oq X' w0 mu (c.iD ρ bx lc) bV a w where
 jy:=ajQ
 boxes:=apC
 ca:=Fy
 owned b l hb:=by
  unfold Cz.iD at hb;simp only [Option.map_eq_some_iff] at hb;obtain ⟨k,hk,e⟩:=hb;obtain ⟨h1,h2⟩:=h.owned b k hk;refine ⟨h1,h2.imp (fun e2 => ?_) id⟩;subst e2;rw [←e];exact hρ.other _ (.inl rfl)
 free b hb h1:=h.free b hb (by unfold Cz.iD at h1;simpa using h1)
 kept:=h.kept
 old:=h.old
 plain:=h.plain
 iC p hp:=mo.iC (h.iC p hp)
theorem mC (st:St) (s j:Nat) (A:Option nY) (k:Nat):∃f:Sl→Sl,(∀x,(f x).v=x.v∧(f x).box=x.box∧(f x).bg=x.bg∧(f x).ag=x.ag∧
   (∀i,nth (f x).ca i=if k=s∧i=j then (nth x.ca i).map (fun _=>A) else nth x.ca i)∧(f x).ep=if k=s then x.ep+1 else x.ep)∧nth (fo st s j A) k=(nth st k).map f:=by
 unfold fo
 by_cases e:k=s
 ·subst e;refine ⟨fun s=>{ s with ca:=tS (fun _=>A) s.ca j,ep:=s.ep+1 },fun x=>⟨rfl,rfl,rfl,rfl,fun i => ?_,by simp⟩,ri _ _ _⟩;simp only [lG,true_and]
 ·refine ⟨id,fun x=>⟨rfl,rfl,rfl,rfl,fun i => ?_,by simp [e]⟩,by rw [vU _ _ e];simp⟩;simp [e]
theorem H8 (st:St) (s j:Nat) (A:Option nY) (t:Nat):w9 st t≤w9 (fo st s j A) t∧(w9 (fo st s j A) t=w9 st t→t≠s∨nth st t=none):=by
 obtain ⟨f,hf,hk⟩:=mC st s j A t;unfold w9;rw [hk]
 cases nth st t with
 |none=>simp
 |some x=>
  simp only [Option.map_some];rw [(hf x).2.2.2.2.2]
  by_cases e:t=s
  ·rw [if_pos e];exact ⟨by omega,fun h=>by omega⟩
  ·rw [if_neg e];exact ⟨Nat.le_refl _,fun _=>.inl e⟩
theorem Gz (st:St) (s j:Nat) (A:Option nY) (t:Nat):dR (fo st s j A) t=dR st t:=by
 obtain ⟨f,hf,hk⟩:=mC st s j A t;unfold dR;rw [hk]
 cases nth st t with
 |none=>rfl
 |some x=>exact (hf x).1
theorem H9 (st:St) (s j:Nat) (A:Option nY) (t:Nat):hU (fo st s j A) t=hU st t∧km (fo st s j A) t=km st t:=by
 obtain ⟨f,hf,hk⟩:=mC st s j A t;unfold hU km;rw [hk]
 cases nth st t with
 |none=>exact ⟨rfl,rfl⟩
 |some x=>exact ⟨(hf x).2.2.2.1,(hf x).2.2.1⟩
theorem Oj (st:St) (s j:Nat) (A:Option nY) (b g:Nat):gi (fo st s j A) b g=gi st b g:=by
 obtain ⟨f,hf,hk⟩:=mC st s j A b;unfold gi;rw [hk]
 cases nth st b with
 |none=>rfl
 |some x=>simp [(hf x).2.1,(hf x).2.2.1]
theorem Ct {st:St} {a j g:Nat} {sl:Sl} {A:nY} (h1:nth st a=some sl) (h2:sl.ag=g) (h3:nth sl.ca j=some (some A)):cT st a j g=some A:=by
 unfold cT;rw [h1];simp [h2,h3]
theorem K9 {c:Cz} {st:St} {w:World} {s j g:Nat} {A:Option nY} {A0:nY} (h0:cT st s j g=some A0∨A=none) (hA:∀B,A=some B→B.r.width=A0.r.width∧B.xs.length=A0.xs.length) (ρ:Lb→Lb) :
  Fw c st w (c.iD ρ c.bx c.lc) (fo st s j A) w where
 stays:=sx c w ρ _ _
 refs a' j' g' A' hg iS:=by
  obtain ⟨sl,k1,k2,k3⟩:=dF iS;obtain ⟨f,hf,hk⟩:=mC st s j A a';rw [hk] at k1
  cases hx:nth st a' with
  |none=>rw [hx] at k1;simp at k1
  |some x=>
   rw [hx] at k1;simp at k1;subst k1;rw [(hf x).2.2.2.1] at k2;rw [(hf x).2.2.2.2.1 j'] at k3
   by_cases e:a'=s∧j'=j
   ·rw [if_pos e] at k3;obtain ⟨rfl,rfl⟩:=e
    cases hq:nth x.ca j' with
    |none=>simp [hq] at k3
    |some A1=>
     simp only [hq,Option.map_some,Option.some.injEq] at k3;rcases h0 with h0 | h0
     ·obtain ⟨sl,k1',k2',k3'⟩:=dF h0;rw [hx] at k1';cases k1';obtain ⟨e1,e2⟩:=hA A' k3;refine ⟨A0,Ct hx k2 k3',e1,e2,rfl,fun he => ?_⟩;rcases (H8 st a' j' A a').2 he with h | h
      ·exact absurd rfl h
      ·rw [hx] at h;cases h
     ·rw [h0] at k3;cases k3
   ·rw [if_neg e] at k3;exact ⟨A',Ct hx k2 k3,rfl,rfl,rfl,fun _=>⟨rfl,fun _ _ _ _=>rfl⟩⟩
 HI b g' cs _ h:=⟨⟨cs,by rwa [Oj] at h⟩,rfl⟩
 gA a':=by rw [(H9 st s j A a').1];exact Nat.le_refl _
 gB a':=by rw [(H9 st s j A a').2];exact Nat.le_refl _
 gE a':=(H8 st s j A a').1
theorem Bl.iD {c:Cz} {st bV:St} {w:World} {ρ:Lb→Lb} {bx:Nat→Nat} {lc:Nat→Nat→Loc} (hρ:Gy ρ) (mo:Fw c st w (c.iD ρ bx lc) bV w) {s:Nat} {cs:List CV} (h:Bl c st w s cs) (hb:bx s=c.bx s):Bl (c.iD ρ bx lc) bV w s cs:=by
 refine h.go mo hb ?_ rfl;unfold Cz.iD;simp only;rw [h.1];simp [hρ.other (.box s) (.inr rfl)]
theorem fQ.iD {c:Cz} {w:World} {ρ:Lb→Lb} {bx:Nat→Nat} {lc:Nat→Nat→Loc} (hρ:Gy ρ) {s j:Nat} {A:nY} (h:fQ c w s j A) (hl:lc s j=c.lc s j):fQ (c.iD ρ bx lc) w s j A:=by
 refine h.go (sx c w ρ bx lc) hl (fun b h0=>⟨rfl,?_⟩);unfold Cz.iD;simp only;rw [h0];simp [hρ.other (.sp s j) (.inr rfl)]
theorem Ia:Gy id:=⟨fun _ _=>rfl⟩
theorem oq.kill {X:Lb→Prop} {w0:World} {mu:Mu} {c:Cz} {st:St} {a:Act} {w:World} (h:oq X w0 mu c st a w) (s j:Nat):oq (fun l=>X l∧l≠.sp s j) w0 mu (c.iD id c.bx c.lc) (fo st s j none) a w∧Fw c st w (c.iD id c.bx c.lc) (fo st s j none) w:=by
 have mo:Fw c st w (c.iD id c.bx c.lc) (fo st s j none) w:=K9 (g:=0) (A0:={ r:=.nil,own:=false,xs:=[] }) (.inr rfl) (fun _ e=>by cases e) id;refine ⟨h.iD Ia mo (fun t=>by rw [Gz];exact mo.vV (h.jy t)) (fun k sl cs hX hs hb => ?_) (fun k i sl A hX hs hA => ?_),mo⟩
 ·obtain ⟨f,hf,hk⟩:=mC st s j none k;rw [hk] at hs
  cases hx:nth st k with
  |none=>rw [hx] at hs;simp at hs
  |some x=>
   rw [hx] at hs;simp at hs;subst hs;rw [(hf x).2.1] at hb;exact (h.boxes k x cs (fun T6=>hX ⟨T6,by simp⟩) hx hb).iD Ia mo rfl
 ·obtain ⟨f,hf,hk⟩:=mC st s j none k;rw [hk] at hs
  cases hx:nth st k with
  |none=>rw [hx] at hs;simp at hs
  |some x=>
   rw [hx] at hs;simp at hs;subst hs;rw [(hf x).2.2.2.2.1 i] at hA
   by_cases e:k=s∧i=j
   ·rw [if_pos e] at hA
    cases hq:nth x.ca i<;>simp [hq] at hA
   ·rw [if_neg e] at hA;exact (h.ca k i x A (fun T6=>hX ⟨T6,by rintro e';injection e' with e1 e2;exact e ⟨e1,e2⟩⟩) hx hA).iD Ia rfl
theorem oq.mono {X X':Lb→Prop} {w0:World} {mu:Mu} {c:Cz} {st:St} {a:Act} {w:World} (h:oq X w0 mu c st a w) (hX:∀l,X l→X' l):oq X' w0 mu c st a w:=
 ⟨h.jy,fun s sl cs hn=>h.boxes s sl cs (fun h=>hn (hX _ h)),fun s j sl A hn=>h.ca s j sl A (fun h=>hn (hX _ h)),h.owned,h.free,h.kept,h.old,h.plain,h.iC⟩
def xO (i z s j:Nat):Lb→Lb
 |.dC x y=>if x=i∧y=z then .sp s j else .dC x y
 |l=>l
def uZ (i b:Nat):Lb→Lb
 |.dC x y=>if x=i then .sp b y else .dC x y
 |.yd x=>if x=i then .box b else .yd x
 |l=>l
theorem MG (i z s j:Nat):Gy (xO i z s j):=⟨fun l h=>by cases l<;>simp [xO,Lb.real] at h ⊢⟩
theorem Kl (i b:Nat):Gy (uZ i b):=⟨fun l h=>by cases l<;>simp [uZ,Lb.real] at h ⊢⟩
theorem OwnAt.arr {c:Cz} {w:World} {l:Lb} {lc':Loc} {A:nY} {v:Value} (h:OwnAt c w l lc' A v) {ρ:Lb→Lb} {bx:Nat→Nat} {lc:Nat→Nat→Loc} {s j:Nat} (hl:lc s j=lc') (hρ:ρ l=.sp s j):fQ (c.iD ρ bx lc) w s j A:=by
 obtain ⟨_,_,h3,h4⟩:=h;unfold fQ;show match lc s j with | .nil=>_ | .at b off cap=>_
 rw [hl]
 cases lc' with
 |nil=>exact h4
 |«at» b off cap=>
  obtain ⟨g1,g2,g3,g4⟩:=h4;rw [h3];have hq:∀k,c.own k=some l→(c.iD ρ bx lc).own k=some (.sp s j):=by
   intro k hk;show (c.own k).map ρ=_;rw [hk];simp [hρ]
  exact ⟨hq b g1,g2,g3,g4.go (fun _=>sx c w ρ bx lc) rfl (fun _ k hk=>⟨rfl,hq k hk⟩)⟩
theorem oq.io {X:Lb→Prop} {w0:World} {mu:Mu} {c:Cz} {st:St} {a:Act} {w:World} (h:oq X w0 mu c st a w) {s j g i z:Nat} {A B:nY} {v:Value} (hA:cT st s j g=some A) (hw:B.r.width=A.r.width) (hn:B.xs.length=A.xs.length)
  (hB:OwnAt c w (.dC i z) (c.lc s j) B v):oq (fun l=>X l∧l≠.sp s j) w0 mu (c.iD (xO i z s j) c.bx c.lc) (fo st s j (some B)) a w∧Fw c st w (c.iD (xO i z s j) c.bx c.lc) (fo st s j (some B)) w:=by
 have mo:Fw c st w (c.iD (xO i z s j) c.bx c.lc) (fo st s j (some B)) w:=K9 (.inl hA) (fun _ e=>by cases e;exact ⟨hw,hn⟩) _;have ht:=MG i z s j;refine ⟨h.iD ht mo (fun t=>by rw [Gz];exact mo.vV (h.jy t)) (fun k sl cs hX hs hb => ?_) (fun k q sl A' hX hs iS => ?_),mo⟩
 ·obtain ⟨f,hf,hk⟩:=mC st s j (some B) k;rw [hk] at hs
  cases hx:nth st k with
  |none=>rw [hx] at hs;simp at hs
  |some x=>
   rw [hx] at hs;simp at hs;subst hs;rw [(hf x).2.1] at hb;exact (h.boxes k x cs (fun T6=>hX ⟨T6,by simp⟩) hx hb).iD ht mo rfl
 ·obtain ⟨f,hf,hk⟩:=mC st s j (some B) k;rw [hk] at hs
  cases hx:nth st k with
  |none=>rw [hx] at hs;simp at hs
  |some x=>
   rw [hx] at hs;simp at hs;subst hs;rw [(hf x).2.2.2.2.1 q] at iS
   by_cases e:k=s∧q=j
   ·rw [if_pos e] at iS;obtain ⟨rfl,rfl⟩:=e
    cases hq:nth x.ca q with
    |none=>simp [hq] at iS
    |some A1=>
     simp only [hq,Option.map_some,Option.some.injEq] at iS;subst iS;exact hB.arr rfl (by simp [xO])
   ·rw [if_neg e] at iS;exact (h.ca k q x A' (fun T6=>hX ⟨T6,by rintro e';injection e' with e1 e2;exact e ⟨e1,e2⟩⟩) hx iS).iD ht rfl
theorem cN.cells {c:Cz} {w:World} {f:Nat→Lb}:(os:List OV)→(j:Nat)→(vs:List Value)→cN c w f j os vs→
  ∃lcs:Nat→Loc,(∀k A,nth (cD os) k=some (some A)→∃v,OwnAt c w (f (j+k)) (lcs (j+k)) A v)∧
   ∀(c2:Cz) (mq:St) (d g:Nat),(∀b,c.ok b→c2.ok b)→(∀k,k<os.length→c2.lc d (j+k)=lcs (j+k))→(∀k A,k<os.length→cT mq d (j+k) g=some A→nth (cD os) k=some (some A))→g≤hU mq d→jf c2 mq w (ch d g j os) vs
 | [],j,vs,h=>by
  subst h;exact ⟨fun _=>.nil,fun k A hA=>by simp [cD] at hA,fun _ _ _ _ _ _ _ _=>⟨rfl,fun i x v hx=>by simp [ch] at hx⟩⟩
 |o::os,j,vs,h=>by
  obtain ⟨v,l,rfl,hh,HT⟩:∃v l,vs=v::l∧cN c w f (j+1) os l∧∃lc,(∀A,o.arr=some A→OwnAt c w (f j) lc A v)∧∀(c2:Cz) (mq:St) (d g:Nat),(∀b,c.ok b→c2.ok b)→c2.lc d j=lc→(∀A,cT mq d j g=some A→o.arr=some A)→g≤hU mq d→
    ∃x,ch d g j (o::os)=x::ch d g (j+1) os∧rj c2 mq w x v:=by
   cases o with
   |int k n=>obtain ⟨l,h1,h2⟩:=h;exact ⟨_,l,h1,h2,.nil,(fun _ e=>by cases e),fun c2 mq d g _ _ _ _=>⟨_,rfl,rfl⟩⟩
   |bool b=>obtain ⟨l,h1,h2⟩:=h;exact ⟨_,l,h1,h2,.nil,(fun _ e=>by cases e),fun c2 mq d g _ _ _ _=>⟨_,rfl,rfl⟩⟩
   |str b=>obtain ⟨l,h1,h2⟩:=h;exact ⟨_,l,h1,h2,.nil,(fun _ e=>by cases e),fun c2 mq d g _ _ _ _=>⟨_,rfl,rfl⟩⟩
   |gJ=>obtain ⟨l,h1,h2⟩:=h;exact ⟨_,l,h1,h2,.nil,(fun _ e=>by cases e),fun c2 mq d g _ _ _ _=>⟨_,rfl,rfl⟩⟩
   |shr r xs=>
    obtain ⟨v,l,h1,h2,h3⟩:=h;exact ⟨v,l,h1,h3,.nil,(fun _ e=>by cases e),fun c2 mq d g je _ _ _=>⟨.shr r xs,rfl,eD.stays ⟨Nat.le_refl _,fun _ _ _=>rfl,fun b _ hb=>je b hb⟩ _ _ _ h2⟩⟩
   |oe r xs=>
    obtain ⟨v,l,h1,⟨b,o,e1,e2,e3,e4⟩,h3⟩:=h;exact ⟨v,l,h1,h3,.nil,(fun _ e=>by cases e),fun c2 mq d g je _ _ _=>⟨.yc r xs 0,rfl,b,o,e1,e2,je b e3,fun x hx=>fP.stays ⟨Nat.le_refl _,fun _ _ _=>rfl,fun b _ hb=>je b hb⟩ _ _ _ _ rfl (e4 x hx)⟩⟩
   |fn g rs xs=>
    obtain ⟨v,l,h1,h2,h3⟩:=h;exact ⟨v,l,h1,h3,.nil,(fun _ e=>by cases e),fun c2 mq d g' je _ _ _=>⟨.fn g rs xs,rfl,h2.stays ⟨Nat.le_refl _,fun _ _ _=>rfl,fun b _ hb=>je b hb⟩⟩⟩
   |own A=>
    obtain ⟨v,l,h1,⟨lc,h2⟩,h3⟩:=h;refine ⟨v,l,h1,h3,lc,(fun A' e=>by cases e;exact h2),fun c2 mq d g _ nZ Fy hg=>⟨.ref d j g .full,rfl,h2.1,hg,fun A' iS => ?_⟩⟩;have e:=Fy A' iS
    cases e
    rw [nZ];exact h2.2.1
  obtain ⟨lc,q1,q2⟩:=HT;obtain ⟨lcs,g1,g2⟩:=cN.cells os (j+1) l hh;refine ⟨fun k=>if k=j then lc else lcs k,fun k A' iS => ?_,fun c2 mq d g je nZ Fy hg => ?_⟩
  ·cases k with
   |zero=>
    simp only [cD,nth,Option.some.injEq] at iS;exact ⟨v,by simpa using q1 A' iS⟩
   |succ k=>
    have:=g1 k A' iS;rw [show j+1+k=j+(k+1) by omega] at this;show ∃v,OwnAt c w (f (j+(k+1))) (if j+(k+1)=j then lc else lcs (j+(k+1))) A' v;rw [if_neg (by omega)];exact this
  ·have ic:=g2 c2 mq d g je (fun k hk=>by
    have:c2.lc d (j+(k+1))=if j+(k+1)=j then lc else lcs (j+(k+1)):=nZ (k+1) (by simp;exact hk)
    rw [if_neg (by omega)] at this;rw [show j+1+k=j+(k+1) by omega];exact this) (fun k A' hk iS=>by
     have:=Fy (k+1) A' (by simp;exact hk) (by rw [show j+(k+1)=j+1+k by omega];exact iS);exact this) hg
   have h0:c2.lc d j=lc:=by
    have:=nZ 0 (by simp);simpa using this
   obtain ⟨x,e1,e2⟩:=q2 c2 mq d g je h0 (fun A hA=>by
    have:=Fy 0 A (by simp) hA;simpa [cD,nth] using this) hg
   rw [e1];refine ⟨by simp [ic.1],fun k y z hy hz => ?_⟩
   cases k with
   |zero=>
    simp only [List.getElem?_cons_zero,Option.some.injEq] at hy hz;subst hy hz;exact e2
   |succ k=>exact ic.2 k y z (by simpa using hy) (by simpa using hz)
theorem oq.boxed {X:Lb→Prop} {w0:World} {mu:Mu} {c:Cz} {st:St} {a:Act} {w:World} (h:oq X w0 mu c st a w) {b g i:Nat} {s0:Sl} {Wj:List CV} {os:List OV} {v:Value} (nG:nth st b=some s0) (HQ:gi st b g=some Wj) (hv:v=.pointer (some ⟨c.bx b,0,none⟩))
  (hB:K6 c w i os v):∃c',oq (fun l=>X l∧l≠.box b) w0 mu c' (tS (fun s=>{ s with box:=some (ch b (s0.ag+1) 0 os),ca:=cD os,ag:=s0.ag+1 }) st b) a w∧
   Fw c st w c' (tS (fun s=>{ s with box:=some (ch b (s0.ag+1) 0 os),ca:=cD os,ag:=s0.ag+1 }) st b) w∧Pass c c' (fun l=>(∀y,l≠.dC i y)∧l≠.yd i):=by
 obtain ⟨sj,vs,ty,h1,h2,h3,h4⟩:=hB;obtain ⟨lcs,g1,g2⟩:=cN.cells os 0 _ h4;rw [hv] at h1;have e:c.bx b=sj:=by injection h1 with h1;injection h1 with h1;injection h1
 obtain ⟨_,ajR,hg',aav⟩:=ko HQ;rw [nG] at ajR;cases ajR
 let c':=c.iD (uZ i b) c.bx (fun s j=>if s=b then lcs j else c.lc s j)
 let bV:=tS (fun s=>{ s with box:=some (ch b (s0.ag+1) 0 os),ca:=cD os,ag:=s0.ag+1 }) st b
 have hn:∀s,nth bV s=if s=b then some { s0 with box:=some (ch b (s0.ag+1) 0 os),ca:=cD os,ag:=s0.ag+1 } else nth st s:=by
  intro s;show nth (tS _ st b) s=_;rw [lG]
  by_cases e:s=b
  ·subst e;simp [nG]
  ·simp [e]
 have Ol:hU bV b=s0.ag+1:=by unfold hU;rw [hn];simp
 have Om:hU st b=s0.ag:=by unfold hU;rw [nG]
 have ht:=Kl i b;have mo:Fw c st w c' bV w:={
  stays:=sx c w _ _ _
  refs:=fun a' j' g' A' hg iS=>by
   obtain ⟨sl,k1,k2,k3⟩:=dF iS;rw [hn] at k1
   by_cases e:a'=b
   ·rw [if_pos e] at k1
    cases k1
    subst e;simp only at k2;omega
   ·rw [if_neg e] at k1;exact ⟨A',Ct k1 k2 k3,rfl,rfl,by show (if a'=b then _ else _)=_;rw [if_neg e],fun _=>⟨rfl,fun _ _ _ _=>rfl⟩⟩
  HI:=fun b' g' s7 hg Qs=>by
   obtain ⟨sl,k1,k2,k3⟩:=ko Qs;rw [hn] at k1
   by_cases e:b'=b
   ·rw [if_pos e] at k1
    cases k1
    subst e;exact ⟨⟨Wj,by unfold gi;rw [nG];simp at k2;simp [k2,aav]⟩,rfl⟩
   ·rw [if_neg e] at k1;exact ⟨⟨s7,by unfold gi;rw [k1];simp [k2,k3]⟩,rfl⟩
  gA:=fun a'=>by
   by_cases e:a'=b
   ·subst e;rw [Ol,Om];omega
   ·unfold hU;rw [hn,if_neg e];exact Nat.le_refl _
  gB:=fun a'=>by
   by_cases e:a'=b
   ·subst e;unfold km;rw [hn,if_pos rfl,nG];exact Nat.le_refl _
   ·unfold km;rw [hn,if_neg e];exact Nat.le_refl _
  gE:=fun a'=>by
   by_cases e:a'=b
   ·subst e;unfold w9;rw [hn,if_pos rfl,nG];exact Nat.le_refl _
   ·unfold w9;rw [hn,if_neg e];exact Nat.le_refl _ }
 have On:∀k A,cT bV b k (s0.ag+1)=some A→nth (cD os) k=some (some A):=by
  intro k A hA;obtain ⟨sl,k1,k2,k3⟩:=dF hA;rw [hn,if_pos rfl] at k1
  cases k1
  exact k3
 refine ⟨c',h.iD ht mo (fun t => ?_) (fun s sl cs hX hs hb => ?_) (fun s j sl A hX hs hA => ?_),mo,⟨fun k l hl hk => ?_,fun k hk=>Cz.td.2 hk⟩⟩
 ·have:dR bV t=dR st t:=by
   unfold dR;rw [hn]
   by_cases e:t=b
   ·subst e;rw [if_pos rfl,nG]
   ·rw [if_neg e]
  rw [this];exact mo.vV (h.jy t)
 ·rw [hn] at hs
  by_cases e':s=b
  ·subst e';rw [if_pos rfl] at hs
   cases hs
   simp only [Option.some.injEq] at hb;subst hb;refine ⟨?_,vs,ty,by show w.heap[c.bx s]?=_;rw [e];exact h3,?_⟩
   ·show (c.own (c.bx s)).map (uZ i s)=some (.box s);rw [e,h2];simp [uZ]
   ·exact g2 c' bV s (s0.ag+1) (fun b hb=>Cz.td.2 hb) (fun k _=>by show (if s=s then _ else _)=_;rw [if_pos rfl]) (fun k A _ hA=>On k A (by simpa using hA)) (by rw [Ol];exact Nat.le_refl _)
  ·rw [if_neg e'] at hs;exact (h.boxes s sl cs (fun T6=>hX ⟨T6,by rintro e2;injection e2 with e2;exact e' e2⟩) hs hb).iD ht mo rfl
 ·rw [hn] at hs
  by_cases e':s=b
  ·subst e';rw [if_pos rfl] at hs
   cases hs
   obtain ⟨v',xM⟩:=g1 j A hA;exact xM.arr (by simp) (by simp [uZ])
  ·rw [if_neg e'] at hs;exact (h.ca s j sl A (fun T6=>hX ⟨T6,by simp⟩) hs hA).iD ht (by simp [e'])
 ·show (c.own k).map (uZ i b)=_;rw [hk];simp only [Option.map_some,Option.some.injEq]
  cases l with
  |dC x y=>simp only [uZ];rw [if_neg];rintro rfl;exact hl.1 y rfl
  |yd x=>simp only [uZ];rw [if_neg];rintro rfl;exact hl.2 rfl
  |_=>rfl
end Go.TM
namespace Go.TM
open Go Go.RowKit
def Lb.Oo:Lb→Option Lb
 |.dC i j=>some (.dC i j)
 |.yd i=>some (.yd i)
 |.kK j=>some (.kK j)
 |_=>none
noncomputable def Cz.merge (c c1:Cz) (n:Nat) (m:Nat→Prop):Cz:=
 { bx:=c.bx,lc:=c.lc,own:=fun b=>have:=Classical.propDecidable (b<n∧¬m b);if b<n∧¬m b then c.own b else (c1.own b).bind Lb.Oo }
theorem Cz.yh {c c1:Cz} {n:Nat} {m:Nat→Prop} {b:Nat} (h:b<n∧¬m b):(c.merge c1 n m).own b=c.own b:=by
 unfold Cz.merge;simp only;rw [if_pos h]
theorem Cz.Fz {c c1:Cz} {n:Nat} {m:Nat→Prop} {b:Nat} (h:¬(b<n∧¬m b)):(c.merge c1 n m).own b=(c1.own b).bind Lb.Oo:=by
 unfold Cz.merge;simp only;rw [if_neg h]
theorem T7 {u:List Lb} {a j:Nat} (h:Lb.sp a j∈u):rf u a=true:=by
 unfold rf;exact List.any_eq_true.2 ⟨_,h,by simp⟩
theorem La (u:List Lb):(st:St)→(a s:Nat)→nth (uS u a st) s=(nth st s).map fun x=>bif rf u (a+s) then { x with ep:=x.ep+1 } else x
 | [],_,_=>rfl
 |x::l,a,0=>rfl
 |x::l,a,s+1=>by
  show nth (uS u (a+1) l) s=_;rw [La u l (a+1) s,show a+1+s=a+(s+1) by omega];rfl
theorem wc (u:List Lb) (st:St) (s:Nat):nth (uS u 0 st) s=(nth st s).map fun x=>bif rf u s then { x with ep:=x.ep+1 } else x:=by
 rw [La,Nat.zero_add]
theorem T8 (u:List Lb) (st:St) (t:Nat):dR (uS u 0 st) t=dR st t:=by
 unfold dR;rw [wc]
 cases nth st t<;>cases rf u t<;>rfl
theorem T9 (u:List Lb) (st:St) (a j g:Nat):cT (uS u 0 st) a j g=cT st a j g:=by
 unfold cT;rw [wc]
 cases nth st a<;>cases rf u a<;>rfl
theorem Ua (u:List Lb) (st:St) (b g:Nat):gi (uS u 0 st) b g=gi st b g:=by
 unfold gi;rw [wc]
 cases nth st b<;>cases rf u b<;>rfl
theorem Oq (u:List Lb) (st:St) (a:Nat):hU (uS u 0 st) a=hU st a∧km (uS u 0 st) a=km st a:=by
 unfold hU km;rw [wc]
 cases nth st a<;>cases rf u a<;>exact ⟨rfl,rfl⟩
theorem Ot (u:List Lb) (st:St) (a:Nat):w9 st a≤w9 (uS u 0 st) a∧(w9 (uS u 0 st) a=w9 st a→nth st a=none∨rf u a=false):=by
 unfold w9;rw [wc]
 cases nth st a<;>cases rf u a<;>simp
theorem Rel.ajS {w0:World} {mu:Mu} {c:Cz} {st:St} {a:Act} {w:World} (h:Rel w0 mu c st a w) {μ:Mu} {c1:Cz} {w':World} (hb:Fx w μ c1 w') {X:Lb→Prop} (hm:∀b,μ.m b→∃l,c.own b=some l∧X l) (hX:∀l,X l→l≠.out) {u:List Lb} (hu:∀a j,X (.sp a j)→rf u a=true) :
  oq X w0 mu (c.merge c1 w.heap.size μ.m) (uS u 0 st) a w'∧Fw c st w (c.merge c1 w.heap.size μ.m) (uS u 0 st) w'∧(∀b l,c.own b=some l→¬X l→w'.heap[b]?=w.heap[b]?∧(c.merge c1 w.heap.size μ.m).own b=c.own b)∧(∀b l,l.Oo=some l→c1.own b=some l→(c.merge c1 w.heap.size μ.m).own b=some l)∧((∀b,μ.ok b→c.own b=none)→∀b,c1.ok b→(c.merge c1 w.heap.size μ.m).ok b):=by
 have qY:w.heap.size≤w'.heap.size:=hb.kept.2.2.2;have w7:lL w w' c.ok (c.merge c1 w.heap.size μ.m).ok:={
  size:=qY
  block:=fun b dB je=>hb.old b dB (fun NY=>by
   obtain ⟨l,hl,_⟩:=hm b NY;unfold Cz.ok at je;rw [je] at hl;cases hl)
  ok:=fun b dB je=>by
   unfold Cz.ok;rw [Cz.yh ⟨dB,fun NY=>by
    obtain ⟨l,hl,_⟩:=hm b NY;unfold Cz.ok at je;rw [je] at hl;cases hl⟩]
   exact je }
 have keep:∀b l,c.own b=some l→¬X l→w'.heap[b]?=w.heap[b]?∧(c.merge c1 w.heap.size μ.m).own b=c.own b:=by
  intro b l hl hn;have dB:=(h.owned b l hl).1;have NY:¬μ.m b:=fun NY=>by
   obtain ⟨l',Cm,hx⟩:=hm b NY;rw [hl] at Cm;cases Cm;exact hn hx
  exact ⟨hb.old b dB NY,Cz.yh ⟨dB,NY⟩⟩
 have mo:Fw c st w (c.merge c1 w.heap.size μ.m) (uS u 0 st) w':={
  stays:=w7
  refs:=fun a' j g A' _ hA=>by
   rw [T9] at hA;refine ⟨A',hA,rfl,rfl,rfl,fun he => ?_⟩;rcases (Ot u st a').2 he with e | e
   ·unfold cT at hA;rw [e] at hA
    cases hA
   ·have mn:∀j,¬X (.sp a' j):=fun j hx=>by rw [hu a' j hx] at e;cases e
    obtain ⟨sl0,nG,_,TR⟩:=dF hA;have h0:=h.ca a' j sl0 A' nG TR;refine ⟨rfl,fun b o cap nZ => ?_⟩;unfold fQ at h0;rw [nZ] at h0;have h1:=h0.1
    cases kM:A'.own with
    |true=>
     rw [kM] at h1;exact (keep b _ h1 (mn j)).1
    |false=>
     rw [kM] at h1;exact w7.block b (by obtain ⟨_,_,⟨cur,te,h3,_⟩,_⟩:=h0;exact (Array.getElem?_eq_some_iff.1 h3).1) h1
  HI:=fun b g cs _ hc=>⟨⟨cs,by rwa [Ua] at hc⟩,rfl⟩
  gA:=fun a'=>by rw [(Oq u st a').1];exact Nat.le_refl _
  gB:=fun a'=>by rw [(Oq u st a').2];exact Nat.le_refl _
  gE:=fun a'=>(Ot u st a').1 }
 refine ⟨⟨fun t=>by rw [T8];exact mo.vV (h.jy t),fun s sl cs hn hs HQ => ?_,fun s j sl A hn hs hA => ?_,fun b l hl => ?_,fun b dB hl => ?_,?_,fun k hk hmu => ?_,h.plain,fun p hp=>mo.iC (h.iC p hp)⟩,mo,keep,fun b l hk hl => ?_,fun je b h1 => ?_⟩
 ·rw [wc] at hs;obtain ⟨sl0,nG,rfl⟩:=Option.map_eq_some_iff.1 hs;have h0:=h.boxes s sl0 cs nG (by cases hq:rf u s<;>rw [hq] at HQ<;>exact HQ);obtain ⟨k1,k2⟩:=keep _ _ h0.1 hn;exact h0.go mo rfl k2 k1
 ·rw [wc] at hs;obtain ⟨sl0,nG,rfl⟩:=Option.map_eq_some_iff.1 hs;have h0:=h.ca s j sl0 A nG (by cases hq:rf u s<;>rw [hq] at hA<;>exact hA);exact h0.go w7 rfl (fun b g1=>keep b _ g1 hn)
 ·by_cases e:b<w.heap.size∧¬μ.m b
  ·rw [Cz.yh e] at hl;have:=h.owned b l hl;exact ⟨Nat.lt_of_lt_of_le this.1 qY,this.2⟩
  ·rw [Cz.Fz e] at hl;obtain ⟨k,hk,e2⟩:=Option.bind_eq_some_iff.1 hl;obtain ⟨g1,g2⟩:=hb.owned b k hk;refine ⟨g1,.inr ?_⟩;have Ka:k≠.out:=by rintro rfl;simp [Lb.Oo] at e2
   by_cases dB:b<w.heap.size
   ·have NY:μ.m b:=Classical.not_not.1 (fun h=>e ⟨dB,h⟩);obtain ⟨l',Cm,hx⟩:=hm b NY;rcases (h.owned b l' Cm).2 with q | q
    ·exact absurd q (hX l' hx)
    ·exact q
   ·have:=h.kept.2.2.2;exact .inl (by omega)
 ·by_cases e:b<w.heap.size∧¬μ.m b
  ·rw [Cz.yh e] at hl;exact h.free b dB hl
  ·have ada:b<w.heap.size:=Nat.lt_of_lt_of_le dB h.kept.2.2.2;have NY:μ.m b:=Classical.not_not.1 (fun h=>e ⟨ada,h⟩);obtain ⟨l',Cm,hx⟩:=hm b NY;rcases (h.owned b l' Cm).2 with q | q | q
   ·exact absurd q (hX l' hx)
   ·omega
   ·exact .inl q
 ·exact ⟨hb.kept.1.trans h.kept.1,hb.kept.2.1.trans h.kept.2.1,hb.kept.2.2.1.trans h.kept.2.2.1,Nat.le_trans h.kept.2.2.2 qY⟩
 ·have ada:k<w.heap.size:=Nat.lt_of_lt_of_le hk h.kept.2.2.2;rw [hb.old k ada (fun NY => ?_)]
  ·exact h.old k hk hmu
  ·obtain ⟨l',Cm,hx⟩:=hm k NY;rcases (h.owned k l' Cm).2 with q | q | q
   ·exact hX l' hx q
   ·omega
   ·exact hmu q
 ·rw [Cz.Fz (fun e => ?_),hl]
  ·exact hk
  ·rcases (hb.owned b l hl).2 with q | q | q
   ·subst q;simp [Lb.Oo] at hk
   ·omega
   ·exact e.2 q
 ·unfold Cz.ok at h1 ⊢
  by_cases e:b<w.heap.size∧¬μ.m b
  ·rw [Cz.yh e];rcases hb.free b e.1 h1 with q | q
   ·exact absurd q e.2
   ·exact je b q
  ·rw [Cz.Fz e,h1];rfl
theorem Cz.Ou (c:Cz) (bx:Nat→Nat) (lc:Nat→Nat→Loc):(c.iD id bx lc).own=c.own:=by
 funext b
 unfold Cz.iD;simp
theorem Df {w0:World} {mu:Mu} {a:Act} {w:World}:(ks:List Lb)→{X:Lb→Prop}→{c:Cz}→{st:St}→oq X w0 mu c st a w→
  ∃c',oq (fun l=>X l∧∀s j,Lb.sp s j∈ks→l≠.sp s j) w0 mu c' (s8 st ks) a w∧Fw c st w c' (s8 st ks) w∧c'.own=c.own
 | [],X,c,st,h=>⟨c,h.mono (fun l hl=>⟨hl,by simp⟩),Fw.refl c st w,rfl⟩
 |k::ks,X,c,st,h=>by
  have skip:s8 st (k::ks)=s8 st ks→(∀s j,k≠.sp s j)→∃c',oq (fun l=>X l∧∀s j,Lb.sp s j∈k::ks→l≠.sp s j) w0 mu c' (s8 st (k::ks)) a w∧Fw c st w c' (s8 st (k::ks)) w∧c'.own=c.own:=by
   intro e hk;obtain ⟨c',h1,h2,h3⟩:=Df ks h;rw [e];refine ⟨c',h1.mono (fun l hl=>⟨hl.1,fun s j hm => ?_⟩),h2,h3⟩;rcases List.mem_cons.1 hm with e2 | hm
   ·exact absurd e2.symm (hk s j)
   ·exact hl.2 s j hm
  cases k with
  |sp s j=>
   obtain ⟨h1,h2⟩:=h.kill s j;obtain ⟨c',h3,h4,h5⟩:=Df ks h1;refine ⟨c',h3.mono (fun l hl=>⟨hl.1.1,fun s' j' hm => ?_⟩),h2.trans h4,h5.trans (Cz.Ou _ _ _)⟩;rcases List.mem_cons.1 hm with e2 | hm
   ·cases e2;exact hl.1.2
   ·exact hl.2 s' j' hm
  |_=>exact skip rfl (by simp)
def FA (m:Pm):V→List Lb
 |.one (.ptr b _ _)=>[.box b]
 |.one (.ref a j _ _)=>match m with
  |.io=>[.sp a j]
  |_=>[]
 |.agg cs=>match m with
  |.dX=>cs.filterMap fun x=>match x with | .ref a j _ _=>some (.sp a j) | _=>none
  |_=>[]
 |_=>[]
def W3 (st:St) (m:Pm×V) (av:AV):Prop:=∃u q r,j5 st m.1 m.2=some (av,u,q,r)
theorem Ov {st:St} {own:Bool}:(cs:List CV)→{os:List OV}→{u:List (Option Lb)}→{r:List (Nat×Nat)}→jJ st own cs=some (os,u,r)→∀(k:Nat) {a j g:Nat} ,cs[k]?=some (.ref a j g .full)→os[k]?=(cT st a j g).map fun A=>bif own&&A.own then .own A else .shr A.r A.xs
 | [],_,_,_,h=>by intro k a j g hk;simp at hk
 |x::cs,os,u,r,h=>by
  unfold jJ at h
  cases hc:lK st own x with
  |none=>simp [hc] at h
  |some p=>
   obtain ⟨o,u1,r1⟩:=p
   cases hq:jJ st own cs with
   |none=>simp [hc,hq] at h
   |some q=>
    obtain ⟨Fp,us,rs⟩:=q;simp only [hc,hq,Option.some.injEq,Prod.mk.injEq] at h;obtain ⟨rfl,rfl,_⟩:=h;intro k a j g hk
    cases k with
    |succ k=>simpa using Ov cs hq k (by simpa using hk)
    |zero=>
     simp only [List.getElem?_cons_zero,Option.some.injEq] at hk;subst hk;unfold lK at hc;simp only at hc
     cases hA:cT st a j g with
     |none=>simp [hA] at hc
     |some A=>
      simp only [hA] at hc
      cases hm:A.md.Qd with
      |true=>simp [hm] at hc
      |false=>
      simp only [hm,cond_false,View.isFull,Bool.or_true,Bool.and_true] at hc
      cases hb:(own&&A.own)<;>simp only [hb,cond_true,cond_false,Option.some.injEq,Prod.mk.injEq] at hc<;>obtain ⟨rfl,_⟩:=hc<;>simp [hb,View.app]
theorem Ib {w0 wb:World} {mu:Mu} {a:Act} {w:World} {c0:Cz} {Fq:St} {i:Nat} {As:List (Option nY)}:(cs:List CV)→(j0:Nat)→(us:List Value)→{X:Lb→Prop}→{c:Cz}→{st bV:St}→oq X w0 mu c st a w→Fw c0 Fq wb c st w→
  (∀(k:Nat) (x:CV) (v:Value),cs[k]?=some x→us[k]?=some v→rj c0 Fq wb x v)→
  (∀(k s j g:Nat) (vw:View),cs[k]?=some (.ref s j g vw)→∃A B u,cT Fq s j g=some A∧nth As (j0+k)=some (some B)∧us[k]?=some u∧B.r.width=A.r.width∧B.xs.length=A.xs.length∧OwnAt c w (.dC i (j0+k)) (c0.lc s j) B u)→
  HG st j0 cs As=some bV→
  ∃c',oq (fun l=>X l∧∀s j g vw,CV.ref s j g vw∈cs→l≠.sp s j) w0 mu c' bV a w∧Fw c0 Fq wb c' bV w∧Pass c c' (fun l=>∀y,l≠.dC i y)
 | [],j0,us,X,c,st,bV,h,mo,_,_,hv=>by
  simp only [HG,Option.some.injEq] at hv;subst hv;exact ⟨c,h.mono (fun l hl=>⟨hl,by simp⟩),mo,⟨fun _ _ _ h=>h,fun _ h=>h⟩⟩
 |x::cs,j0,us,X,c,st,bV,h,mo,hr,hB,hv=>by
  have skip:(∀s j g vw,x≠.ref s j g vw)→HG st (j0+1) cs As=some bV→∃c',oq (fun l=>X l∧∀s j g vw,CV.ref s j g vw∈x::cs→l≠.sp s j) w0 mu c' bV a w∧Fw c0 Fq wb c' bV w∧Pass c c' (fun l=>∀y,l≠.dC i y):=by
   intro hx hv;obtain ⟨c',g1,g2,g3⟩:=Ib (i:=i) cs (j0+1) us.tail h mo (fun k y v hk hv=>hr (k+1) y v (by simpa using hk) (by simpa using hv)) (fun k s j g vw hk=>by
    obtain ⟨A,B,u,q1,q2,q3,q4,q5,q6⟩:=hB (k+1) s j g vw (by simpa using hk);refine ⟨A,B,u,q1,by rw [show j0+1+k=j0+(k+1) by omega];exact q2,by simpa using q3,q4,q5,by rw [show j0+1+k=j0+(k+1) by omega];exact q6⟩) hv
   refine ⟨c',g1.mono (fun l hl=>⟨hl.1,fun s j g vw hm => ?_⟩),g2,g3⟩;rcases List.mem_cons.1 hm with e | hm
   ·exact absurd e.symm (hx s j g vw)
   ·exact hl.2 s j g vw hm
  cases x with
  |ref s j g vw=>
   unfold HG at hv
   split at hv
   ·rename_i B A1 hnB hA1;obtain ⟨A,B',u,q1,q2,q3,q4,q5,q6⟩:=hB 0 s j g vw rfl;rw [Nat.add_zero] at q2 q6;rw [hnB] at q2;simp only [Option.some.injEq] at q2;subst q2;have hr0:=hr 0 _ u rfl q3;obtain ⟨A0',p1,p2,p3,p4,_⟩:=mo.refs s j g A1 hr0.2.1 hA1;rw [q1] at p1;cases p1;have hO':OwnAt c w (.dC i j0) (c.lc s j) B u:=by rw [p4];exact q6
    obtain ⟨g1,g2⟩:=h.io hA1 (q4.trans p2.symm) (q5.trans p3.symm) hO';have Lc:∀b l,l≠.dC i j0→c.own b=some l→(c.iD (xO i j0 s j) c.bx c.lc).own b=some l:=by
     intro b l hl hb;show (c.own b).map _=_;rw [hb];simp only [Option.map_some,Option.some.injEq]
     cases l with
     |dC x y=>simp only [xO];rw [if_neg];rintro ⟨rfl,rfl⟩;exact hl rfl
     |_=>rfl
    obtain ⟨c',k1,k2,k3⟩:=Ib (i:=i) cs (j0+1) us.tail g1 (mo.trans g2) (fun k y v hk hv=>hr (k+1) y v (by simpa using hk) (by simpa using hv)) (fun k s' j' g' vw' hk=>by
     obtain ⟨A,B,u,q1,q2,q3,q4,q5,q6⟩:=hB (k+1) s' j' g' vw' (by simpa using hk);refine ⟨A,B,u,q1,by rw [show j0+1+k=j0+(k+1) by omega];exact q2,by simpa using q3,q4,q5,?_⟩;rw [show j0+1+k=j0+(k+1) by omega];exact q6.pass (fun b hb=>Lc b _ (by simp) hb) (.inl fun b hb=>Cz.td.2 hb)) hv
    refine ⟨c',k1.mono (fun l hl=>⟨hl.1.1,fun s' j' g' vw' hm => ?_⟩),k2,⟨fun b l hl hb=>k3.dC b l hl (Lc b l (hl j0) hb),fun b hb=>k3.ok b (Cz.td.2 hb)⟩⟩;rcases List.mem_cons.1 hm with e | hm
    ·cases e;exact hl.1.2
    ·exact hl.2 s' j' g' vw' hm
   ·cases hv
  |_=>exact skip (by simp) hv
theorem Ic {w0 wb:World} {mu:Mu} {a:Act} {w:World} {c0:Cz} {Fq:St} {lc:Nat→Nat→Loc}:(ms:List (Pm×V))→(i:Nat)→(gq:List AV)→(xs:List Value)→(es:List XV)→{X:Lb→Prop}→{c:Cz}→{st bV:St}→oq X w0 mu c st a w→Fw c0 Fq wb c st w→
  (∀(k:Nat) (m:Pm×V) (x:Value),ms[k]?=some m→xs[k]?=some x→iB c0 Fq wb m.2 x)→(∀(k:Nat) (m:Pm×V) (av:AV),ms[k]?=some m→gq[k]?=some av→W3 Fq m av)→ms.length=gq.length→ms.length=xs.length→(∀(k:Nat) (m:Pm×V),ms[k]?=some m→lc (i+k)=Gx c0 m.2)→
  kN c w lc i gq xs es→yQ st ms es=some bV→
  ∃c',oq (fun l=>X l∧∀m∈ms,l∉FA m.1 m.2) w0 mu c' bV a w∧Fw c0 Fq wb c' bV w∧Pass c c' (fun l=>(∃j,l=.kK j)∨l.real=true)
 | [],i,gq,xs,es,X,c,st,bV,h,mo,_,_,_,_,_,hx,hv=>by
  cases es with
  |nil=>
   simp only [yQ,Option.some.injEq] at hv;subst hv;exact ⟨c,h.mono (fun l hl=>⟨hl,by simp⟩),mo,⟨fun _ _ _ h=>h,fun _ h=>h⟩⟩
  |cons _ _=>simp [yQ] at hv
 |(m,v)::ms,i,[],xs,es,X,c,st,bV,h,mo,hr,he,hn,hn2,nZ,hx,hv=>by simp at hn
 |(m,v)::ms,i,av::gq,[],es,X,c,st,bV,h,mo,hr,he,hn,hn2,nZ,hx,hv=>by simp at hn2
 |(m,v)::ms,i,av::gq,x::xs,es,X,c,st,bV,h,mo,hr,he,hn,hn2,nZ,hx,hv=>by
  have hr0:=hr 0 (m,v) x rfl rfl;obtain ⟨u,q,r,w8⟩:=he 0 (m,v) av rfl rfl;have adb:=nZ 0 (m,v) rfl;simp only [Nat.add_zero] at adb;have ZZ:∀(k:Nat) (m:Pm×V) (x:Value),ms[k]?=some m→xs[k]?=some x→iB c0 Fq wb m.2 x:=fun k m' x' h1 h2=>hr (k+1) m' x' (by simpa using h1) (by simpa using h2)
  have he':∀(k:Nat) (m:Pm×V) (av:AV),ms[k]?=some m→gq[k]?=some av→W3 Fq m av:=fun k m' x' h1 h2=>he (k+1) m' x' (by simpa using h1) (by simpa using h2)
  have acX:∀(k:Nat) (m:Pm×V),ms[k]?=some m→lc (i+1+k)=Gx c0 m.2:=fun k m' h1=>by
   have:=nZ (k+1) m' (by simpa using h1)
   rwa [show i+(k+1)=i+1+k by omega] at this
  have Wm:ms.length=gq.length:=by simpa using hn
  have apG:ms.length=xs.length:=by simpa using hn2
  unfold yQ at hv
  cases hb:xk st m v es with
  |none=>simp [hb] at hv
  |some p=>
   obtain ⟨HP,es1⟩:=p;simp only [hb] at hv;have go:∀ {X1:Lb→Prop} {c1:Cz},oq X1 w0 mu c1 HP a w→Fw c0 Fq wb c1 HP w→(∀l,X1 l→X l∧l∉FA m v)→kN c1 w lc (i+1) gq xs es1→Pass c c1 (fun l=>(∃j,l=.kK j)∨l.real=true)→
     ∃c',oq (fun l=>X l∧∀m'∈(m,v)::ms,l∉FA m'.1 m'.2) w0 mu c' bV a w∧Fw c0 Fq wb c' bV w∧Pass c c' (fun l=>(∃j,l=.kK j)∨l.real=true):=by
    intro X1 c1 g1 g2 g3 g4 g5;obtain ⟨c',k1,k2,k3⟩:=Ic ms (i+1) gq xs es1 g1 g2 ZZ he' Wm apG acX g4 hv;refine ⟨c',k1.mono (fun l hl=>⟨(g3 l hl.1).1,fun m' NY => ?_⟩),k2,⟨fun b l hl hb=>k3.dC b l hl (g5.dC b l hl hb),fun b hb=>k3.ok b (g5.ok b hb)⟩⟩;rcases List.mem_cons.1 NY with rfl | NY
    ·exact (g3 l hl.1).2
    ·exact hl.2 m' NY
   have o8:FA m v=[]→HP=st→es1=es→(∃ag os,av=.val ag os)→∃c',oq (fun l=>X l∧∀m'∈(m,v)::ms,l∉FA m'.1 m'.2) w0 mu c' bV a w∧Fw c0 Fq wb c' bV w∧Pass c c' (fun l=>(∃j,l=.kK j)∨l.real=true):=by
    rintro e1 rfl rfl ⟨ag,os,rfl⟩
    exact go h mo (fun l hl=>⟨hl,by rw [e1];simp⟩) hx ⟨fun _ _ _ h=>h,fun _ h=>h⟩
   cases v with
   |rb us=>simp [j5] at w8
   |agg cs=>
    have yZ:∀u q r,(match jJ Fq m.sg cs with | some (os,u,r)=>some (AV.val true os,dS u,dS u,r) | none=>none)=some (av,u,q,r)→∃ag os,av=.val ag os:=by
     intro u q r w8
     cases hq:jJ Fq m.sg cs with
     |none=>simp [hq] at w8
     |some p=>
      obtain ⟨os,us,rs⟩:=p;simp only [hq,Option.some.injEq,Prod.mk.injEq] at w8;exact ⟨_,_,w8.1.symm⟩
    unfold j5 at w8
    cases m with
    |shr=>
     simp only [xk,Option.some.injEq,Prod.mk.injEq] at hb;exact o8 rfl hb.1.symm hb.2.symm (yZ _ _ _ w8)
    |own=>
     simp only [xk,Option.some.injEq,Prod.mk.injEq] at hb;exact o8 rfl hb.1.symm hb.2.symm (yZ _ _ _ w8)
    |pick _=>
     simp only [xk,Option.some.injEq,Prod.mk.injEq] at hb;exact o8 rfl hb.1.symm hb.2.symm (yZ _ _ _ w8)
    |io=>
     simp only [xk,Option.some.injEq,Prod.mk.injEq] at hb;exact o8 rfl hb.1.symm hb.2.symm (yZ _ _ _ w8)
    |dX=>
     simp only at w8
     cases hq:jJ Fq true cs with
     |none=>simp [hq] at w8
     |some p=>
      obtain ⟨os,us,rs⟩:=p;simp only [hq] at w8;obtain ⟨sw,CL⟩:=bM w8;simp only [Option.some.injEq,Prod.mk.injEq] at CL;obtain ⟨rfl,_⟩:=CL;obtain ⟨As,l,rfl,⟨us',rfl,hX⟩,ic⟩:=hx;unfold xk at hb;obtain ⟨mq,Ie,e2⟩:=Option.map_eq_some_iff.1 hb;injection e2 with e2 e3;subst e2 e3;obtain ⟨vs0,e0,hl0⟩:=hr0;injection e0 with e0;subst e0;obtain ⟨c1,g1,g2,g3⟩:=Ib (i:=i) (As:=As) cs 0 us'.toList h mo (fun k x v hk hv=>hl0.2 k x v hk (by simpa using hv)) (fun k s j g vw hk=>by
       have Ef:=List.mem_of_getElem? hk;have Kb:=List.all_eq_true.1 sw _ Ef;unfold WA at Kb;rw [Bool.and_eq_true] at Kb
       cases hA:cT Fq s j g with
       |none=>rw [hA] at Kb;cases Kb.2
       |some A=>
        have W2:vw=.full:=by
         cases vw with
         |full=>rfl
         |«from» _=>cases Kb.1
         |sub _ _=>cases Kb.1
        subst W2;rw [hA] at Kb;have ho:os[k]?=some (.own A):=by
         have:=Ov cs hq k hk;rw [hA] at this;have TX:A.own=true:=Kb.2;simpa [TX] using this
        obtain ⟨B,u,k1,k2,k3,k4,k5⟩:=hX k A ho;refine ⟨A,B,u,rfl,by rw [Nat.zero_add];exact k1,k2,k3,k4,?_⟩;have:lc i k=c0.lc s j:=by
         rw [adb];show QD c0 cs[k]?=_;rw [hk];rfl
        rw [←this,Nat.zero_add];exact k5) Ie
      refine go g1 g2 (fun l hl=>⟨hl.1,fun hm => ?_⟩) ?_ ⟨fun b l hl=>g3.dC b l (hl.elim (by rintro ⟨j,rfl⟩;simp) (by intro h;cases l<;>simp_all [Lb.real])),g3.ok⟩
      ·obtain ⟨x,Qw,MH⟩:=List.mem_filterMap.1 hm
       cases x with
       |ref s j g vw=>simp only [Option.some.injEq] at MH;exact hl.2 s j g vw Qw MH.symm
       |_=>cases MH
      ·exact kN.pass gq (i+1) (fun b k hk hb=>g3.dC b _ (by simp) hb) (fun b k j hk hb=>g3.dC b _ (by intro y;simp;omega) hb) xs _ (.inl g3.ok) ic
   |one cx=>
    cases cx with
    |ptr b g off=>
     unfold xk at hb
     cases es with
     |nil=>simp at hb
     |cons e es2=>cases e with
      |io _=>simp at hb
      |dX _=>simp at hb
      |box os=>
       simp only at hb
       split at hb
       ·rename_i s0 Wj nG aav;simp only [Option.some.injEq,Prod.mk.injEq] at hb;obtain ⟨rfl,rfl⟩:=hb;have Ow:∃os0,av=.box os0:=by
         unfold j5 at w8;simp only at w8
         cases hq:gi Fq b g with
         |none=>simp [hq] at w8
         |some cs=>
          simp only [hq] at w8
          cases N8:jJ Fq true cs with
          |none=>simp [N8] at w8
          |some p=>
           obtain ⟨Fp,us,rs⟩:=p;simp only [N8] at w8;obtain ⟨_,CL⟩:=bM w8;simp only [Option.some.injEq,Prod.mk.injEq] at CL;exact ⟨_,CL.1.symm⟩
        obtain ⟨os0,rfl⟩:=Ow;obtain ⟨os1,l,e1,hB,ic⟩:=hx
        cases e1
        have hp:=(mo.vV (v:=x) hr0);have e2:=hp.2.2 Wj aav;have e3:x=.pointer (some ⟨c.bx b,0,none⟩):=by
         obtain ⟨sj,vs,ty,q1,_⟩:=hB;rw [e2] at q1 ⊢;injection q1 with q1;injection q1 with q1;injection q1 with q1 q2;rw [q2]
        obtain ⟨c1,g1,g2,g3⟩:=h.boxed nG aav e3 hB;refine go g1 (mo.trans g2) (fun l hl=>⟨hl.1,by simp [FA];exact hl.2⟩) ?_ ⟨fun b l hl=>g3.dC b l (hl.elim (by rintro ⟨j,rfl⟩;simp) (by intro h;cases l<;>simp_all [Lb.real])),g3.ok⟩;exact kN.pass gq (i+1) (fun b k hk hb=>g3.dC b _ (by constructor<;>simp;omega) hb) (fun b k j hk hb=>g3.dC b _ (by constructor<;>simp;omega) hb) xs es2 (.inl g3.ok) ic
       ·cases hb
    |ref s j g vw=>
     have yZ:m≠.io→∃ag os,av=.val ag os:=by
      intro hm;unfold j5 at w8
      cases m with
      |io=>exact absurd rfl hm
      |shr=>
       cases hq:jJ Fq Pm.shr.sg [.ref s j g vw] with
       |none=>simp [hq] at w8
       |some p=>obtain ⟨os,us,rs⟩:=p;simp only [hq,Option.some.injEq,Prod.mk.injEq] at w8;exact ⟨_,_,w8.1.symm⟩
      |dX=>
       cases hq:jJ Fq Pm.dX.sg [.ref s j g vw] with
       |none=>simp [hq] at w8
       |some p=>obtain ⟨os,us,rs⟩:=p;simp only [hq,Option.some.injEq,Prod.mk.injEq] at w8;exact ⟨_,_,w8.1.symm⟩
      |own=>
       cases hq:jJ Fq Pm.own.sg [.ref s j g vw] with
       |none=>simp [hq] at w8
       |some p=>obtain ⟨os,us,rs⟩:=p;simp only [hq,Option.some.injEq,Prod.mk.injEq] at w8;exact ⟨_,_,w8.1.symm⟩
      |pick pl=>
       cases hq:jJ Fq (Pm.pick pl).sg [.ref s j g vw] with
       |none=>simp [hq] at w8
       |some p=>obtain ⟨os,us,rs⟩:=p;simp only [hq,Option.some.injEq,Prod.mk.injEq] at w8;exact ⟨_,_,w8.1.symm⟩
     cases m with
     |shr=>
      simp only [xk,Option.some.injEq,Prod.mk.injEq] at hb;exact o8 rfl hb.1.symm hb.2.symm (yZ (by simp))
     |dX=>
      simp only [xk,Option.some.injEq,Prod.mk.injEq] at hb;exact o8 rfl hb.1.symm hb.2.symm (yZ (by simp))
     |own=>
      simp only [xk,Option.some.injEq,Prod.mk.injEq] at hb;exact o8 rfl hb.1.symm hb.2.symm (yZ (by simp))
     |pick _=>
      simp only [xk,Option.some.injEq,Prod.mk.injEq] at hb;exact o8 rfl hb.1.symm hb.2.symm (yZ (by simp))
     |io=>
      unfold xk at hb;simp only at hb
      split at hb
      ·rename_i B es2 A2 TX;simp only [Option.some.injEq,Prod.mk.injEq] at hb;obtain ⟨rfl,rfl⟩:=hb;have Ow:∃A0,av=.io A0∧cT Fq s j g=some A0:=by
        unfold j5 at w8
        cases vw with
        |full=>
         cases hA:cT Fq s j g with
         |none=>simp [hA] at w8
         |some A=>
          simp only [hA] at w8;obtain ⟨_,CL⟩:=bM w8;simp only [Option.some.injEq,Prod.mk.injEq] at CL;exact ⟨A,CL.1.symm,rfl⟩
        |«from» _=>simp at w8
        |sub _ _=>simp at w8
       obtain ⟨A0,rfl,TS⟩:=Ow;obtain ⟨B',l,e1,hw,hlen,hO,ic⟩:=hx
       cases e1
       obtain ⟨A0',q1,q2,q3,q4,_⟩:=mo.refs s j g A2 hr0.2.1 TX;rw [TS] at q1;cases q1;have hO':OwnAt c w (.dC i 0) (c.lc s j) B x:=by
        rw [q4];have:lc i 0=c0.lc s j:=by rw [adb];rfl
        rw [←this];exact hO
       obtain ⟨g1,g2⟩:=h.io TX (hw.trans q2.symm) (hlen.trans q3.symm) hO';have Lc:∀b l,(∀y,l≠.dC i y)→c.own b=some l→(c.iD (xO i 0 s j) c.bx c.lc).own b=some l:=by
        intro b l hl hb;show (c.own b).map _=_;rw [hb];simp only [Option.map_some,Option.some.injEq]
        cases l with
        |dC x y=>simp only [xO];rw [if_neg];rintro ⟨rfl,_⟩;exact hl y rfl
        |_=>rfl
       refine go g1 (mo.trans g2) (fun l hl=>⟨hl.1,by simp [FA];exact hl.2⟩) ?_ ⟨fun b l hl=>Lc b l (hl.elim (by rintro ⟨j,rfl⟩;simp) (by intro h;cases l<;>simp_all [Lb.real])),fun b hb=>Cz.td.2 hb⟩;exact kN.pass gq (i+1) (fun b k hk hb=>Lc b _ (by simp) hb) (fun b k j hk hb=>Lc b _ (by intro y;simp;omega) hb) xs es2 (.inl fun b hb=>Cz.td.2 hb) ic
      ·cases hb
    |_=>
     simp only [xk,Option.some.injEq,Prod.mk.injEq] at hb;refine o8 rfl hb.1.symm hb.2.symm ?_;unfold j5 at w8;simp only at w8
     split at w8
     ·simp only [Option.some.injEq,Prod.mk.injEq] at w8;exact ⟨_,_,w8.1.symm⟩
     ·cases w8
end Go.TM
namespace Go.TM
open Go Go.RowKit
def Es (d:Nat):Lb→Lb
 |.kK j=>.sp d j
 |l=>l
theorem C2 (d:Nat):Gy (Es d):=⟨fun l h=>by cases l<;>simp [Es,Lb.real] at h ⊢⟩
theorem AI:(os ps:List OV)→cD (os++ps)=cD os++cD ps
 | [],ps=>rfl
 |o::os,ps=>by simp [cD,AI os ps]
theorem qf:(os:List OV)→(cD os).length=os.length
 | []=>rfl
 |o::os=>by simp [cD,qf os]
theorem W4 (d g j:Nat) (o:OV):∃x,ch d g j [o]=[x]:=by
 cases o<;>exact ⟨_,rfl⟩
theorem pB.vals {c:Cz} {w:World}:(rs:List RV)→(j:Nat)→(vs:List Value)→pB c w j rs vs→
  ∃lcs:Nat→Loc,(∀k A,nth (cD (rs.flatMap RV.Bi)) k=some (some A)→∃v,OwnAt c w (.kK (j+k)) (lcs (j+k)) A v)∧rs.length=vs.length∧(∀d g,(nN d g j rs).length=rs.length)∧
   ∀(c2:Cz) (mq:St) (d g:Nat),(∀b,c.ok b→c2.ok b)→(∀k,k<(rs.flatMap RV.Bi).length→c2.lc d (j+k)=lcs (j+k))→(∀k A,k<(rs.flatMap RV.Bi).length→cT mq d (j+k) g=some A→nth (cD (rs.flatMap RV.Bi)) k=some (some A))→g≤hU mq d→
    ∀(k:Nat) (x:V) (v:Value),(nN d g j rs)[k]?=some x→vs[k]?=some v→D6 c2 mq w x v
 | [],j,vs,h=>by
  subst h;exact ⟨fun _=>.nil,fun k A hA=>by simp [cD] at hA,rfl,fun _ _=>rfl,fun _ _ _ _ _ _ _ _ k x v hx=>by simp [nN] at hx⟩
 |r::rs,j,vs,h=>by
  obtain ⟨v,l,us,rfl,hL,hR,hV⟩:∃(v:Value) (l us:List Value),vs=v::l∧cN c w .kK j r.Bi us∧pB c w (j+r.Bi.length) rs l∧
    (∀(c2:Cz) (mq:St) (d g:Nat),jf c2 mq w (ch d g j r.Bi) us→D6 c2 mq w (Ww d g j r) v):=by
   cases r with
   |one o=>
    obtain ⟨v,l,h1,h2,h3⟩:=h;refine ⟨v,l,[v],h1,h2,h3,fun c2 mq d g hl => ?_⟩;unfold Ww;obtain ⟨x,hx⟩:=W4 d g j o;show D6 c2 mq w (match ch d g j [o] with | [c]=>.one c | _=>.one .bad) v;have hl:jf c2 mq w (ch d g j [o]) [v]:=hl;rw [hx] at hl ⊢;exact hl.2 0 x v rfl rfl
   |agg os=>
    obtain ⟨us,l,h1,h2,h3⟩:=h;exact ⟨.agg us,l,us.toList,h1,h2,h3,fun c2 mq d g hl=>⟨us,rfl,hl⟩⟩
   |ptr os=>
    obtain ⟨v,l,h1,⟨sj,us,ty,_,_,_,g4⟩,h3⟩:=h;exact ⟨v,l,.slice none 0 0::us.toList,h1,⟨_,rfl,g4⟩,h3,fun _ _ _ _ _=>trivial⟩
  obtain ⟨l1,a1,a2⟩:=cN.cells r.Bi j us hL;obtain ⟨l2,b1,b2,b3,b4⟩:=pB.vals rs (j+r.Bi.length) l hR;have abS:cD ((r::rs).flatMap RV.Bi)=cD r.Bi++cD (rs.flatMap RV.Bi):=by
   rw [List.flatMap_cons,AI]
  refine ⟨fun k=>if k<j+r.Bi.length then l1 k else l2 k,fun k A hA => ?_,by simp [b2],fun d g=>by simp [nN,b3],fun c2 mq d g je nZ Fy hg k x v' hx xM => ?_⟩
  ·rw [abS,qu,qf] at hA
   by_cases e:k<r.Bi.length
   ·rw [if_pos e] at hA;have:=a1 k A hA;show ∃v,OwnAt c w _ (if j+k<_ then _ else _) A v;rw [if_pos (by omega)];exact this
   ·rw [if_neg e] at hA;have:=b1 _ A hA;rw [show j+r.Bi.length+(k-r.Bi.length)=j+k by omega] at this;show ∃v,OwnAt c w _ (if j+k<_ then _ else _) A v;rw [if_neg (by omega)];exact this
  ·rw [abS] at Fy;rw [List.flatMap_cons,List.length_append] at nZ Fy
   cases k with
   |zero=>
    simp only [nN,List.getElem?_cons_zero,Option.some.injEq] at hx xM;subst hx xM;refine hV c2 mq d g (a2 c2 mq d g je (fun k hk => ?_) (fun k A hk hA => ?_) hg)
    ·have:c2.lc d (j+k)=if j+k<j+r.Bi.length then l1 (j+k) else l2 (j+k):=nZ k (by omega)
     rwa [if_pos (by omega)] at this
    ·have:=Fy k A (by omega) hA
     rwa [qu,qf,if_pos hk] at this
   |succ k=>
    refine b4 c2 mq d g je (fun k hk => ?_) (fun k A hk hA => ?_) hg k x v' (by simpa [nN] using hx) (by simpa using xM)
    ·have:c2.lc d (j+(r.Bi.length+k))=if j+(r.Bi.length+k)<j+r.Bi.length then l1 (j+(r.Bi.length+k)) else l2 (j+(r.Bi.length+k)):=nZ (r.Bi.length+k) (by omega)
     rw [if_neg (by omega)] at this;rw [Nat.add_assoc];exact this
    ·rw [Nat.add_assoc] at hA;have:=Fy (r.Bi.length+k) A (by omega) hA
     rwa [qu,qf,if_neg (by omega),Nat.add_sub_cancel_left] at this
def y0 (d:Nat):Lb→Lb
 |.kK 0=>.box d
 |.kK (j+1)=>.sp d (j+1)
 |l=>l
theorem C3 (d:Nat):Gy (y0 d):=⟨fun l h=>by
 cases l with
 |kK j=>cases j<;>simp [y0,Lb.real] at h ⊢
 |_=>simp [y0,Lb.real] at h ⊢⟩
theorem oq.aaw {X:Lb→Prop} {w0:World} {mu:Mu} {c:Cz} {st:St} {a:Act} {w:World} (h:oq X w0 mu c st a w) {d:Nat} {s0:Sl} {os:List OV} {v:Value} (nG:nth st d=some s0)
  (hv:∃sj us ty,v=.pointer (some ⟨sj,0,none⟩)∧c.own sj=some (.kK 0)∧w.heap[sj]?=some (.cells us ty (0,0))∧cN c w .kK 1 os us.toList) (hd:d<a.tmps.size) :
  ∃c',oq X w0 mu c' (tS (fun s=>{ s with v:=.one (.ptr d (s.bg+1) 0),box:=some (ch d (s.ag+1) 1 os),bg:=s.bg+1,ca:=none::cD os,ag:=s.ag+1 }) st d) (a.put (some d) v) w∧
   Fw c st w c' (tS (fun s=>{ s with v:=.one (.ptr d (s.bg+1) 0),box:=some (ch d (s.ag+1) 1 os),bg:=s.bg+1,ca:=none::cD os,ag:=s.ag+1 }) st d) w∧∀b l,l.real=true→c.own b=some l→c'.own b=some l:=by
 obtain ⟨sj,us,ty,rfl,kM,W5,hL⟩:=hv;obtain ⟨lcs,g1,g2⟩:=cN.cells os 1 _ hL
 let c':=c.iD (y0 d) (fun s=>if s=d then sj else c.bx s) (fun s j=>if s=d then lcs j else c.lc s j)
 let bV:=tS (fun s=>{ s with v:=.one (.ptr d (s.bg+1) 0),box:=some (ch d (s.ag+1) 1 os),bg:=s.bg+1,ca:=none::cD os,ag:=s.ag+1 }) st d
 have hn:∀s,nth bV s=if s=d then some { s0 with v:=.one (.ptr d (s0.bg+1) 0),box:=some (ch d (s0.ag+1) 1 os),bg:=s0.bg+1,ca:=none::cD os,ag:=s0.ag+1 } else nth st s:=by
  intro s;show nth (tS _ st d) s=_;rw [lG]
  by_cases e:s=d
  ·subst e;rw [if_pos rfl,if_pos rfl,nG];rfl
  ·rw [if_neg e,if_neg e]
 have Ol:hU bV d=s0.ag+1:=by unfold hU;rw [hn];simp
 have Om:hU st d=s0.ag:=by unfold hU;rw [nG]
 have abT:km bV d=s0.bg+1:=by unfold km;rw [hn];simp
 have ade:km st d=s0.bg:=by unfold km;rw [nG]
 have ht:=C3 d;have mo:Fw c st w c' bV w:={
  stays:=sx c w _ _ _
  refs:=fun a' j' g' A' hg iS=>by
   obtain ⟨sl,k1,k2,k3⟩:=dF iS;rw [hn] at k1
   by_cases e:a'=d
   ·rw [if_pos e] at k1
    cases k1
    subst e;simp only at k2;omega
   ·rw [if_neg e] at k1;exact ⟨A',Ct k1 k2 k3,rfl,rfl,by show (if a'=d then _ else _)=_;rw [if_neg e],fun _=>⟨rfl,fun _ _ _ _=>rfl⟩⟩
  HI:=fun b' g' s7 hg Qs=>by
   obtain ⟨sl,k1,k2,k3⟩:=ko Qs;rw [hn] at k1
   by_cases e:b'=d
   ·rw [if_pos e] at k1
    cases k1
    subst e;simp only at k2;omega
   ·rw [if_neg e] at k1;exact ⟨⟨s7,by unfold gi;rw [k1];simp [k2,k3]⟩,by show (if b'=d then _ else _)=_;rw [if_neg e]⟩
  gA:=fun a'=>by
   by_cases e:a'=d
   ·subst e;rw [Ol,Om];omega
   ·unfold hU;rw [hn,if_neg e];exact Nat.le_refl _
  gB:=fun a'=>by
   by_cases e:a'=d
   ·subst e;rw [abT,ade];omega
   ·unfold km;rw [hn,if_neg e];exact Nat.le_refl _
  gE:=fun a'=>by
   by_cases e:a'=d
   ·subst e;unfold w9;rw [hn,if_pos rfl,nG];exact Nat.le_refl _
   ·unfold w9;rw [hn,if_neg e];exact Nat.le_refl _ }
 have On:∀k A,cT bV d (1+k) (s0.ag+1)=some A→nth (cD os) k=some (some A):=by
  intro k A hA;obtain ⟨sl,k1,k2,k3⟩:=dF hA;rw [hn,if_pos rfl] at k1
  cases k1
  rw [show 1+k=k+1 by omega] at k3;exact k3
 have yi:∀t,iB c' bV w (dR bV t) ((a.put (some d) (.pointer (some ⟨sj,0,none⟩))).eval (.tmp t)):=by
  intro t;rw [eval_put]
  by_cases e:t=d
  ·subst e;rw [if_pos ⟨rfl,hd⟩];have:dR bV t=.one (.ptr t (s0.bg+1) 0):=by unfold dR;rw [hn,if_pos rfl]
   rw [this];refine ⟨rfl,by rw [abT];exact Nat.le_refl _,fun cs _ => ?_⟩;show _=Value.pointer (some ⟨(if t=t then sj else c.bx t),0,none⟩);rw [if_pos rfl]
  ·rw [if_neg (by rintro ⟨e2,_⟩;exact e (Option.some.inj e2).symm)];have:dR bV t=dR st t:=by unfold dR;rw [hn,if_neg e]
   rw [this];exact mo.vV (h.jy t)
 refine ⟨c',⟨yi,fun s sl cs hX hs hb => ?_,fun s j sl A hX hs hA => ?_,fun b l hb => ?_,fun b hb h1=>h.free b hb (by unfold Cz.ok at *;simpa [c',Cz.iD] using h1),h.kept,h.old,by simpa [Act.put] using h.plain,fun p hp=>mo.iC (h.iC p hp)⟩,mo,fun b l hl hb => ?_⟩
 case refine_4=>
  show (c.own b).map (y0 d)=_;rw [hb];simp [(C3 d).other l (.inr hl)]
 ·rw [hn] at hs
  by_cases e:s=d
  ·subst e;rw [if_pos rfl] at hs
   cases hs
   simp only [Option.some.injEq] at hb;subst hb;refine ⟨?_,us,ty,by show w.heap[if s=s then sj else c.bx s]?=_;rw [if_pos rfl];exact W5,?_⟩
   ·show (c.own (if s=s then sj else c.bx s)).map (y0 s)=some (.box s);rw [if_pos rfl,kM];rfl
   ·exact g2 c' bV s (s0.ag+1) (fun b hb=>Cz.td.2 hb) (fun k _=>by show (if s=s then _ else _)=_;rw [if_pos rfl]) (fun k A _ hA=>On k A hA) (by rw [Ol];exact Nat.le_refl _)
  ·rw [if_neg e] at hs;exact (h.boxes s sl cs hX hs hb).iD ht mo (by show (if s=d then _ else _)=_;rw [if_neg e])
 ·rw [hn] at hs
  by_cases e:s=d
  ·subst e;rw [if_pos rfl] at hs
   cases hs
   cases j with
   |zero=>simp [nth] at hA
   |succ j=>
    obtain ⟨v',xM⟩:=g1 j A hA;rw [show 1+j=j+1 by omega] at xM;exact xM.arr (by simp) (by simp [y0])
  ·rw [if_neg e] at hs;exact (h.ca s j sl A hX hs hA).iD ht (by simp [e])
 ·simp only [c',Cz.iD,Option.map_eq_some_iff] at hb;obtain ⟨k,hk,e⟩:=hb;obtain ⟨h1,h2⟩:=h.owned b k hk;refine ⟨h1,h2.imp (fun e2 => ?_) id⟩;subst e2;rw [←e];rfl
theorem MI {st:St} {d:Nat} {outs:List RV} (h:∀os,outs≠[.ptr os]):Bj st (some d) outs=match nth st d with
  |some s=>some (tS (fun sl=>{ sl with v:=(match nN d (s.ag+1) 0 outs with | [v]=>v | vs=>.rb vs),ca:=cD (outs.flatMap RV.Bi),ag:=s.ag+1 }) st d)
  |none=>none:=by
 unfold Bj;simp only
 cases nth st d with
 |none=>rfl
 |some s=>
  cases outs with
  |nil=>rfl
  |cons r l=>cases l with
   |cons _ _=>cases r<;>rfl
   |nil=>cases r with
    |one o=>rfl
    |agg os=>rfl
    |ptr os=>exact absurd rfl (h os)
theorem oq.laid {X:Lb→Prop} {w0:World} {mu:Mu} {c:Cz} {st:St} {a:Act} {w:World} (h:oq X w0 mu c st a w) {d:Option Nat} {outs:List RV} {v:Value} (hv:wa c w outs v) {bV:St} (hl:Bj st d outs=some bV) (hd:∀k,d=some k→k<a.tmps.size) :
  ∃c',oq X w0 mu c' bV (a.put d v) w∧Fw c st w c' bV w∧∀b l,l.real=true→c.own b=some l→c'.own b=some l:=by
 cases d with
 |none=>
  cases outs with
  |nil=>
   simp only [Bj,Option.some.injEq] at hl;subst hl;exact ⟨c,h,Fw.refl c st w,fun _ _ _ h=>h⟩
  |cons _ _=>simp [Bj] at hl
 |some d=>
  by_cases hp:∃os,outs=[.ptr os]
  ·obtain ⟨os,rfl⟩:=hp;unfold Bj at hl;simp only at hl
   cases nG:nth st d with
   |none=>simp [nG] at hl
   |some s0=>
    simp only [nG,Option.some.injEq] at hl;subst hl;refine h.aaw nG ?_ (hd d rfl);rcases hv with ⟨r,h1,h2⟩ | ⟨h1,_⟩
    ·simp only [List.cons.injEq,and_true] at h1;subst h1;obtain ⟨v',l,e1,h3,_⟩:=h2;simp only [List.cons.injEq] at e1;rw [e1.1];exact h3
    ·exact absurd rfl h1
  rw [MI (fun os e=>hp ⟨os,e⟩)] at hl
  cases nG:nth st d with
  |none=>simp [nG] at hl
  |some s0=>
   simp only [nG,Option.some.injEq] at hl;obtain ⟨vs,hR,hVV⟩:∃vs,pB c w 0 outs vs∧∀(c2:Cz) (mq:St) (g:Nat),(nN d g 0 outs).length=vs.length→(∀(k:Nat) (x:V) (u:Value),(nN d g 0 outs)[k]?=some x→vs[k]?=some u→D6 c2 mq w x u)→
     iB c2 mq w (match nN d g 0 outs with | [v]=>v | vs=>.rb vs) v:=by
    rcases hv with ⟨r,rfl,h2⟩ | ⟨h1,vs,rfl,h2⟩
    ·refine ⟨[v],h2,fun c2 mq g hlen Et => ?_⟩;exact Og (Et 0 _ v rfl rfl)
    ·refine ⟨vs.toList,h2,fun c2 mq g hlen Et => ?_⟩;have adf:iB c2 mq w (.rb (nN d g 0 outs)) (.tuple vs):=⟨vs,rfl,by simpa using hlen,fun i x y hx hy=>Et i x y hx (by simpa using hy)⟩
     split
     ·rename_i x hx;obtain ⟨_,_,_,b3,_⟩:=pB.vals outs 0 vs.toList h2;have:=b3 d g;rw [hx] at this;exact absurd this.symm h1
     ·exact adf
   obtain ⟨lcs,g1,g2,g3,g4⟩:=pB.vals outs 0 vs hR
   let c':=c.iD (Es d) c.bx (fun s j=>if s=d then lcs j else c.lc s j)
   let V0:=(match nN d (s0.ag+1) 0 outs with | [v]=>v | vs=>.rb vs)
   have hn:∀s,nth bV s=if s=d then some { s0 with v:=V0,ca:=cD (outs.flatMap RV.Bi),ag:=s0.ag+1 } else nth st s:=by
    intro s;rw [←hl,lG]
    by_cases e:s=d
    ·subst e;rw [if_pos rfl,if_pos rfl,nG];rfl
    ·rw [if_neg e,if_neg e]
   have Ol:hU bV d=s0.ag+1:=by unfold hU;rw [hn];simp
   have Om:hU st d=s0.ag:=by unfold hU;rw [nG]
   have ht:=C2 d;have mo:Fw c st w c' bV w:={
    stays:=sx c w _ _ _
    refs:=fun a' j' g' A' hg iS=>by
     obtain ⟨sl,k1,k2,k3⟩:=dF iS;rw [hn] at k1
     by_cases e:a'=d
     ·rw [if_pos e] at k1
      cases k1
      subst e;simp only at k2;omega
     ·rw [if_neg e] at k1;exact ⟨A',Ct k1 k2 k3,rfl,rfl,by show (if a'=d then _ else _)=_;rw [if_neg e],fun _=>⟨rfl,fun _ _ _ _=>rfl⟩⟩
    HI:=fun b' g' s7 hg Qs=>by
     obtain ⟨sl,k1,k2,k3⟩:=ko Qs;rw [hn] at k1
     by_cases e:b'=d
     ·rw [if_pos e] at k1
      cases k1
      subst e;exact ⟨⟨s7,by unfold gi;rw [nG];simp at k2 k3;simp [k2,k3]⟩,rfl⟩
     ·rw [if_neg e] at k1;exact ⟨⟨s7,by unfold gi;rw [k1];simp [k2,k3]⟩,rfl⟩
    gA:=fun a'=>by
     by_cases e:a'=d
     ·subst e;rw [Ol,Om];omega
     ·unfold hU;rw [hn,if_neg e];exact Nat.le_refl _
    gB:=fun a'=>by
     by_cases e:a'=d
     ·subst e;unfold km;rw [hn,if_pos rfl,nG];exact Nat.le_refl _
     ·unfold km;rw [hn,if_neg e];exact Nat.le_refl _
    gE:=fun a'=>by
     by_cases e:a'=d
     ·subst e;unfold w9;rw [hn,if_pos rfl,nG];exact Nat.le_refl _
     ·unfold w9;rw [hn,if_neg e];exact Nat.le_refl _ }
   have On:∀k A,cT bV d k (s0.ag+1)=some A→nth (cD (outs.flatMap RV.Bi)) k=some (some A):=by
    intro k A hA;obtain ⟨sl,k1,k2,k3⟩:=dF hA;rw [hn,if_pos rfl] at k1
    cases k1
    exact k3
   have yi:∀t,iB c' bV w (dR bV t) ((a.put (some d) v).eval (.tmp t)):=by
    intro t;rw [eval_put]
    by_cases e:t=d
    ·subst e;rw [if_pos ⟨rfl,hd t rfl⟩];have:dR bV t=V0:=by unfold dR;rw [hn,if_pos rfl]
     rw [this];refine hVV c' bV (s0.ag+1) (by rw [g3,g2]) (g4 c' bV t (s0.ag+1) (fun b hb=>Cz.td.2 hb) (fun k _ => ?_) (fun k A _ hA=>On k A (by simpa using hA)) (by rw [Ol];exact Nat.le_refl _));show (if t=t then _ else _)=_;rw [if_pos rfl]
    ·rw [if_neg (by rintro ⟨e2,_⟩;exact e (Option.some.inj e2).symm)];have:dR bV t=dR st t:=by unfold dR;rw [hn,if_neg e]
     rw [this];exact mo.vV (h.jy t)
   refine ⟨c',⟨yi,fun s sl cs hX hs hb => ?_,fun s j sl A hX hs hA => ?_,fun b l hb => ?_,fun b hb h1=>h.free b hb (by unfold Cz.ok at *;simpa [c',Cz.iD] using h1),h.kept,h.old,by simpa [Act.put] using h.plain,fun p hp=>mo.iC (h.iC p hp)⟩,mo,fun b l hl hb => ?_⟩
   case refine_4=>
    show (c.own b).map (Es d)=_;rw [hb];simp [(C2 d).other l (.inr hl)]
   ·rw [hn] at hs
    by_cases e:s=d
    ·subst e;rw [if_pos rfl] at hs
     cases hs
     exact (h.boxes s s0 cs hX nG hb).iD ht mo rfl
    ·rw [if_neg e] at hs;exact (h.boxes s sl cs hX hs hb).iD ht mo rfl
   ·rw [hn] at hs
    by_cases e:s=d
    ·subst e;rw [if_pos rfl] at hs
     cases hs
     obtain ⟨v',xM⟩:=g1 j A hA;exact xM.arr (by simp) (by simp [Es])
    ·rw [if_neg e] at hs;exact (h.ca s j sl A hX hs hA).iD ht (by simp [e])
   ·simp only [c',Cz.iD,Option.map_eq_some_iff] at hb;obtain ⟨k,hk,e⟩:=hb;obtain ⟨h1,h2⟩:=h.owned b k hk;refine ⟨h1,h2.imp (fun e2 => ?_) id⟩;subst e2;rw [←e];rfl
end Go.TM
namespace Go.TM
open Go Go.RowKit
theorem Ld {st:St} {own:Bool}:(cs:List CV)→{os:List OV}→{u:List (Option Lb)}→{r:List (Nat×Nat)}→jJ st own cs=some (os,u,r)→∀l∈dS u,l∈cs.filterMap fun x=>match x with | .ref a j _ _=>some (Lb.sp a j) | _=>none
 | [],_,_,_,h=>by
  simp only [jJ,Option.some.injEq,Prod.mk.injEq] at h;obtain ⟨_,rfl,_⟩:=h;simp [dS]
 |x::cs,os,u,r,h=>by
  unfold jJ at h
  cases hc:lK st own x with
  |none=>simp [hc] at h
  |some p=>
   obtain ⟨o,u1,r1⟩:=p
   cases hq:jJ st own cs with
   |none=>simp [hc,hq] at h
   |some q=>
    obtain ⟨Fp,us,rs⟩:=q;simp only [hc,hq,Option.some.injEq,Prod.mk.injEq] at h;obtain ⟨_,rfl,_⟩:=h;intro l hl;rw [lN] at hl;rcases List.mem_cons.1 hl with hl | hl
    ·refine List.mem_filterMap.2 ⟨x,List.mem_cons_self,?_⟩
     cases x with
     |ref a j g w=>
      unfold lK at hc;simp only at hc
      cases hA:cT st a j g with
      |none=>simp [hA] at hc
      |some A=>
       simp only [hA] at hc
       cases hm:A.md.Qd with
       |true=>simp [hm] at hc
       |false=>
       simp only [hm,cond_false] at hc
       cases hb:(own&&A.own&&(A.md.is .sh||w.isFull))<;>simp only [hb,cond_true,cond_false,Option.some.injEq,Prod.mk.injEq] at hc<;>obtain ⟨_,rfl,_⟩:=hc
       ·cases hl
       ·exact hl.symm
     |oe q y off=>obtain ⟨_,rfl,_⟩:=Em hc;cases hl
     |yc q y off=>obtain ⟨_,rfl,_⟩:=Cq hc;cases hl
     |_=>
      simp only [lK,Option.some.injEq,Prod.mk.injEq,reduceCtorEq] at hc
      all_goals (obtain ⟨_,rfl,_⟩:=hc;cases hl)
    ·have:=Ld cs hq l (lN.2 hl);obtain ⟨y,h1,h2⟩:=List.mem_filterMap.1 this;exact List.mem_filterMap.2 ⟨y,List.mem_cons_of_mem _ h1,h2⟩
theorem QE {st:St} {m:Pm} {v:V} {av:AV} {u q:List Lb} {r:List (Nat×Nat)} (h:j5 st m v=some (av,u,q,r)):∀l∈u,(l∈q∧∃s j,l=.sp s j)∨l∈FA m v:=by
 have single:∀own cs,(match jJ st own cs with | some (os,u,r)=>some (AV.val false os,dS u,dS u,r) | none=>none)=some (av,u,q,r)→∀l∈u,(l∈q∧∃s j,l=.sp s j)∨l∈FA m v:=by
  intro own cs h
  cases hq:jJ st own cs with
  |none=>simp [hq] at h
  |some p=>
   obtain ⟨os,us,rs⟩:=p;simp only [hq,Option.some.injEq,Prod.mk.injEq] at h;obtain ⟨_,rfl,rfl,_⟩:=h;exact fun l hl=>.inl ⟨hl,Cs cs hq l hl⟩
 cases v with
 |rb _=>simp [j5] at h
 |agg cs=>
  have other:(match jJ st m.sg cs with | some (os,u,r)=>some (AV.val true os,dS u,dS u,r) | none=>none)=some (av,u,q,r)→∀l∈u,(l∈q∧∃s j,l=.sp s j)∨l∈FA m (.agg cs):=by
   intro h
   cases hq:jJ st m.sg cs with
   |none=>simp [hq] at h
   |some p=>
    obtain ⟨os,us,rs⟩:=p;simp only [hq,Option.some.injEq,Prod.mk.injEq] at h;obtain ⟨_,rfl,rfl,_⟩:=h;exact fun l hl=>.inl ⟨hl,Cs cs hq l hl⟩
  unfold j5 at h
  cases m with
  |shr=>exact other h
  |own=>exact other h
  |pick _=>exact other h
  |io=>exact other h
  |dX=>
   simp only at h
   cases hq:jJ st true cs with
   |none=>simp [hq] at h
   |some p=>
    obtain ⟨os,us,rs⟩:=p;simp only [hq] at h;obtain ⟨_,h1⟩:=bM h;simp only [Option.some.injEq,Prod.mk.injEq] at h1;obtain ⟨_,rfl,_,_⟩:=h1;exact fun l hl=>.inr (Ld cs hq l hl)
 |one cx=>
  cases cx with
  |ptr b g off=>
   unfold j5 at h;simp only at h
   cases hb:gi st b g with
   |none=>simp [hb] at h
   |some cs=>
    simp only [hb] at h
    cases hq:jJ st true cs with
    |none=>simp [hq] at h
    |some p=>
     obtain ⟨os,us,rs⟩:=p;simp only [hq] at h;obtain ⟨_,h1⟩:=bM h;simp only [Option.some.injEq,Prod.mk.injEq] at h1;obtain ⟨_,rfl,rfl,_⟩:=h1;intro l hl;rcases List.mem_cons.1 hl with rfl | hl
     ·exact .inr (by simp [FA])
     ·exact .inl ⟨hl,Cs cs hq l hl⟩
  |ref s j g vw=>
   unfold j5 at h
   cases m with
   |shr=>exact single _ _ h
   |own=>exact single _ _ h
   |pick _=>exact single _ _ h
   |dX=>exact single _ _ h
   |io=>
    cases vw with
    |full=>
     cases hA:cT st s j g with
     |none=>simp [hA] at h
     |some A=>
      simp only [hA] at h;obtain ⟨_,h1⟩:=bM h;simp only [Option.some.injEq,Prod.mk.injEq] at h1;obtain ⟨_,rfl,_,_⟩:=h1;exact fun l hl=>.inr (by simpa [FA] using hl)
    |«from» _=>simp at h
    |sub _ _=>simp at h
  |_=>
   unfold j5 at h;simp only at h
   split at h
   ·rename_i os us rs hq;simp only [Option.some.injEq,Prod.mk.injEq] at h;obtain ⟨_,rfl,rfl,_⟩:=h;exact fun l hl=>.inl ⟨hl,Cs _ hq l hl⟩
   ·cases h
theorem Ig {st:St}:(ms:List (Pm×V))→{gq:List AV}→{u q:List Lb}→{r:List (Nat×Nat)}→pK st ms=some (gq,u,q,r)→∀l∈u,(l∈q∧∃s j,l=.sp s j)∨∃m∈ms,l∈FA m.1 m.2
 | [],_,_,_,_,h=>by
  simp only [pK,Option.some.injEq,Prod.mk.injEq] at h;obtain ⟨_,rfl,_⟩:=h;simp
 |(m,v)::ms,gq,u,q,r,h=>by
  unfold pK at h
  cases h1:j5 st m v with
  |none=>simp [h1] at h
  |some p1=>
   obtain ⟨av,u1,q1,r1⟩:=p1
   cases h2:pK st ms with
   |none=>simp [h1,h2] at h
   |some p2=>
    obtain ⟨ac9,u2,q2,r2⟩:=p2;simp only [h1,h2,Option.some.injEq,Prod.mk.injEq] at h;obtain ⟨rfl,rfl,rfl,rfl⟩:=h;intro l hl;rcases List.mem_append.1 hl with hl | hl
    ·rcases QE h1 l hl with ⟨h3,h4⟩ | h3
     ·exact .inl ⟨List.mem_append_left _ h3,h4⟩
     ·exact .inr ⟨(m,v),List.mem_cons_self,h3⟩
    ·rcases Ig ms h2 l hl with ⟨h3,h4⟩ | ⟨m',h3,h4⟩
     ·exact .inl ⟨List.mem_append_right _ h3,h4⟩
     ·exact .inr ⟨m',List.mem_cons_of_mem _ h3,h4⟩
theorem GA {st:St}:(ms:List (Pm×V))→{gq:List AV}→{u q:List Lb}→{r:List (Nat×Nat)}→pK st ms=some (gq,u,q,r)→∀(k:Nat) (m:Pm×V) (av:AV),ms[k]?=some m→gq[k]?=some av→W3 st m av
 | [],_,_,_,_,_=>by intro k m av hm;simp at hm
 |(m,v)::ms,gq,u,q,r,h=>by
  unfold pK at h
  cases h1:j5 st m v with
  |none=>simp [h1] at h
  |some p1=>
   obtain ⟨av,u1,q1,r1⟩:=p1
   cases h2:pK st ms with
   |none=>simp [h1,h2] at h
   |some p2=>
    obtain ⟨ac9,u2,q2,r2⟩:=p2;simp only [h1,h2,Option.some.injEq,Prod.mk.injEq] at h;obtain ⟨rfl,rfl,rfl,rfl⟩:=h;intro k m' SC hm Ow
    cases k with
    |zero=>simp at hm Ow;subst hm Ow;exact ⟨u1,q1,r1,h1⟩
    |succ k=>exact GA ms h2 k m' SC (by simpa using hm) (by simpa using Ow)
theorem Ub (a b c:Pm) (l:List V):(D4 a b c l).map (·.2)=l:=by
 rcases l with _ | ⟨x,_ | ⟨y,_ | ⟨z,l⟩⟩⟩<;>simp [D4,Function.comp_def]
theorem Cz.Dg:(m:List (Nat×Nat))→(c:Cz)→{b:Nat}→{l:Lb}→c.own b=some l→(∀p∈m,l≠.sp p.1 p.2)→(c.drop m).own b=some l
 | [],_,_,_,h,_=>h
 |(s,j)::m,c,b,l,h,hm=>Cz.Dg m (c.drop1 s j) (Cz.vX h (hm (s,j) List.mem_cons_self)) (fun p hp=>hm p (List.mem_cons_of_mem _ hp))
def pL (P:Program) (S:nF):Prop:=
 ∀f a b c Hc,S f=some (a,b,c,Hc)→FnOk P f Hc∧∃fn,P.funcs[f]?=some fn∧(fn.name == "runtime.NumGoroutine")=false∧fn.body.isNone=false
theorem W6 {P:Program} {w0:World} {mu:Mu} {c:Cz} {st bV:St} {a:Act} {w:World} (h:Rel w0 mu c st a w) {o:Oper} {f:FuncId} {vals:Array Value} (vY:(execOp a.eval o).run P w=.ok (.enter f vals) w)
  {Hc:AS} (Wn:FnOk P f Hc) {ms:List (Pm×V)}
  (hlen:ms.length=vals.toList.length) (Et:∀(k:Nat) (m:Pm×V) (x:Value),ms[k]?=some m→vals.toList[k]?=some x→iB c st w m.2 x)
  {fin:St→N} (hv:(WB st o.dst Hc ms fin).val=some bV) (hd:∀k,o.dst=some k→k<a.tmps.size) {kp:Bool} (hkp:kp=true→Qq st ms=true)
  (QF:∀(c5:Cz) (mq:St) (a2:Act) (w':World),Rel w0 mu c5 mq a2 w'→Fw c st w c5 mq w'→
   (∀gq u q r,pK st ms=some (gq,u,q,r)→∀b l,l.real=true→l∉u→(∀p∈r,l≠.sp p.1 p.2)→c.own b=some l→w'.heap[b]?=w.heap[b]?∧c5.own b=some l)→
   (fin mq).val=some bV→∃c6,Rel w0 mu c6 bV a2 w'):C0 P w0 mu bV o a w kp:=by
  unfold WB at hv;unfold Qq at hkp
  cases he:pK st ms with
  |none=>simp [he,N.val] at hv
  |some p=>
   obtain ⟨gq,u,q,r⟩:=p;simp only [he] at hv hkp;obtain ⟨hc,hv⟩:=jK hv;rw [Bool.and_eq_true] at hc
   cases hs:Hc gq with
   |none=>simp [hs,N.val] at hv
   |some p=>
    simp only [hs] at hv
    cases hox:p.o with
    |none=>rw [hox] at hv;cases hv
    |some x=>
    rw [hox] at hv;have Qf:=hv;clear hv;unfold N.val at Qf;simp only at Qf;generalize MD:p.res x=res at Qf
    cases hbk:yQ (s8 (uS u 0 (bif res.plain then st else freeze st r)) q) ms res.exts with
    |none=>simp [hbk,N.val] at Qf
    |some HP=>
     simp only [hbk] at Qf
     cases hly:Bj HP o.dst res.outs with
     |none=>simp [hly,N.val] at Qf
     |some mq=>
      simp only [hly] at Qf;have Qf:(fin mq).val=some bV:=Qf;obtain ⟨GB,hqu,tb,W7,ajX,Uc,hold⟩:=K8 h ms 0 _ hlen Et he;have hnd:=tc u GB hc.1;have hap:∀p∈r,Lb.sp p.1 p.2∉u:=by
       intro p hp hm;have h1:=List.all_eq_true.1 hc.2 p hp;have h2:=List.all_eq_true.1 h1 _ hm;rw [(Lb.En rfl).2 rfl] at h2
       cases h2
      let lc:Nat→Nat→Loc:=fun k=>match ms[k]? with | some m=>Gx c m.2 | none=>fun _=>.nil
      have AG:=Classical.propDecidable
      let ρ:Lb→Option Lb:=fun l=>match look tb l with | some y=>some y | none=>if (∃p∈r,l=.sp p.1 p.2) then none else some .out
      have Eu:∀ {l y},look tb l=some y→l∈u∧y.om=true:=by
       intro l y hl;have:=Cr tb hl;exact ⟨by rw [←W7];exact List.mem_map.2 ⟨_,this,rfl⟩,ajX _ this⟩
      have hρr:∀p∈r,ρ (.sp p.1 p.2)=none:=by
       intro p hp;show (match look tb (.sp p.1 p.2) with | some y=>some y | none=>if (∃p'∈r,Lb.sp p.1 p.2=.sp p'.1 p'.2) then none else some .out)=none
       cases hl:look tb (.sp p.1 p.2) with
       |some y=>exact absurd (Eu hl).1 (hap p hp)
       |none=>simp only;rw [if_pos ⟨p,hp,rfl⟩]
      have hρt:∀p∈tb,ρ p.1=some p.2:=by
       intro p hp;have:=Eo tb (by rw [W7];exact hnd) hp;show (match look tb p.1 with | some y=>some y | none=>_)=_;rw [this]
      have hρh:∀ {l y},ρ l=some y→y=.out∨(y.om=true∧l∈u):=by
       intro l y hl;have hl:(match look tb l with | some y=>some y | none=>if (∃p∈r,l=.sp p.1 p.2) then none else some .out)=some y:=hl
       cases hk:look tb l with
       |some z=>
        rw [hk] at hl
        cases hl
        exact .inr ⟨(Eu hk).2,(Eu hk).1⟩
       |none=>
        rw [hk] at hl;simp only at hl
        split at hl
        ·cases hl
        ·cases hl;exact .inl rfl
      have hρn:∀ {l},ρ l=none→∃p∈r,l=.sp p.1 p.2:=by
       intro l hl;have hl:(match look tb l with | some y=>some y | none=>if (∃p∈r,l=.sp p.1 p.2) then none else some .out)=none:=hl
       cases hk:look tb l with
       |some z=>rw [hk] at hl;cases hl
       |none=>
        rw [hk] at hl;simp only at hl
        split at hl
        ·assumption
        ·cases hl
      let μ:Mu:={ m:=fun b=>∃l,(c.map ρ).own b=some l∧l.om=true,ok:=fun b=>(c.map ρ).own b=none,an:=[] }
      have hH:Handed (c.map ρ) w μ:={
       m:=fun b=>Iff.rfl
       ok:=fun b=>Iff.rfl
       lt:=fun b l hb=>by
        obtain ⟨k,hk,_⟩:=Cz.map_some hb;exact (h.owned b k hk).1
       lb:=fun b l hb=>by
        obtain ⟨k,hk,e⟩:=Cz.map_some hb;exact (hρh e).imp id (·.1) }
      have hA:=hold ρ lc (fun k m hm=>by simp only [Nat.zero_add,lc,hm]) hρt hρr;have ot:=Wn (c.map ρ) w μ lc gq vals p x hH hA hs hox;rw [MD] at ot;intro Q;unfold Oper.wp;rw [vY,Oper.upon_enter];refine ot.mono fun e w' Ih => ?_
      obtain ⟨v,rfl,c1,FB,hV,hX⟩:=Ih;obtain ⟨c2,s2,TR,hR2,hF2,hm2,apN,apO⟩:∃(c2:Cz) (s2:St),(bif res.plain then st else freeze st r)=s2∧Rel w0 mu c2 s2 a w∧Fw c st w c2 s2 w∧(∀b,μ.m b→∃l,c2.own b=some l∧l∈u)∧(res.plain=true∨∀b,μ.ok b→c2.own b=none)∧
        (∀b l,(∀p∈r,l≠.sp p.1 p.2)→c.own b=some l→c2.own b=some l):=by
       have hm:∀b,μ.m b→∃l,c.own b=some l∧l∈u:=by
        rintro b ⟨l,hl,hh⟩
        obtain ⟨k,hk,e⟩:=Cz.map_some hl;rcases hρh e with e2 | e2
        ·subst e2;cases hh
        ·exact ⟨k,hk,e2.2⟩
       cases hp:res.plain with
       |true=>exact ⟨c,st,rfl,h,Fw.refl c st w,hm,.inl rfl,fun _ _ _ h=>h⟩
       |false=>
        refine ⟨c.drop r,freeze st r,rfl,Rel.freeze r h,Fw.freeze w r c st,fun b hb => ?_,.inr fun b hb => ?_,fun b l hl hb=>Cz.Dg r c hb hl⟩
        ·obtain ⟨l,h1,h2⟩:=hm b hb;exact ⟨l,Cz.Dg r c h1 (fun p hp e=>hap p hp (e▸h2)),h2⟩
        ·have hb:(c.own b).bind ρ=none:=hb
         cases hk:c.own b with
         |none=>exact Cz.D8 r c b hk
         |some l=>
          rw [hk] at hb;obtain ⟨p,hp,e⟩:=hρn hb;subst e;exact Cz.Hr r c b hk hp
      rw [TR] at hbk;obtain ⟨g1,g2,gfr,g3,g4⟩:=hR2.ajS FB (X:=fun l=>l∈u) hm2 (fun l hl e=>by subst e;cases GB _ hl) (u:=u) (fun a j h=>T7 h);have QG:(∀b,c1.ok b→(c2.merge c1 w.heap.size μ.m).ok b)∨res.plain=true:=by
       rcases apN with h1 | h1
       ·exact .inr h1
       ·exact .inl (g4 h1)
      have W8:res.plain=true→res.outs.all (fun o=>o.Bi.all OV.plain)=true∧res.exts.all XV.plain=true:=by
       intro hp;unfold Res.plain at hp
       rwa [Bool.and_eq_true] at hp
      have hV':wa (c2.merge c1 w.heap.size μ.m) w' res.outs v:=hV.pass (fun b j=>g3 b (.kK j) rfl) (QG.imp id fun hp=>(W8 hp).1);have T6:kN (c2.merge c1 w.heap.size μ.m) w' lc 0 gq vals.toList res.exts:=kN.pass gq 0 (fun b k _=>g3 b (.yd k) rfl) (fun b k j _=>g3 b (.dC k j) rfl) _ _ (QG.imp id fun hp=>(W8 hp).2) hX;obtain ⟨c3,k1,k2,k3⟩:=Df q g1;have ajY:∀b,(c2.merge c1 w.heap.size μ.m).ok b→c3.ok b:=fun b hb=>by unfold Cz.ok at *;rw [k3];exact hb
      have hV3:wa c3 w' res.outs v:=hV'.pass (fun b j hb=>by rw [k3];exact hb) (.inl ajY);have hX3:kN c3 w' lc 0 gq vals.toList res.exts:=kN.pass gq 0 (fun b k _ hb=>by rw [k3];exact hb) (fun b k j _ hb=>by rw [k3];exact hb) _ _ (.inl ajY) T6;obtain ⟨c4,l1,l2,l3⟩:=Ic ms 0 gq _ _ k1 ((hF2.trans g2).trans k2) Et (GA ms he) Uc.symm hlen (fun k m hm=>by simp only [Nat.zero_add,lc,hm]) hX3 hbk;have hV4:wa c4 w' res.outs v:=hV3.pass (fun b j=>l3.dC b (.kK j) (.inl ⟨j,rfl⟩)) (.inl l3.ok);obtain ⟨c5,n1,n2,n3⟩:=l1.laid hV4 hly hd;have ajZ:Rel w0 mu c5 mq (a.put o.dst v) w':=by
       refine (n1.mono (X':=fun _=>False) (fun l hl => ?_)).rel;obtain ⟨⟨WU,hl2⟩,hl3⟩:=hl;rcases Ig ms he l WU with ⟨h1,s,j,e⟩ | ⟨m,h1,h2⟩
       ·subst e;exact hl2 s j h1 rfl
       ·exact hl3 m h1 h2
      obtain ⟨c6,hc6⟩:=QF c5 mq _ w' ajZ (l2.trans n2) (fun ac9 u' q' r' he' b l WU hl2 hl3 hb=>by
       rw [he] at he';simp only [Option.some.injEq,Prod.mk.injEq] at he';obtain ⟨rfl,rfl,rfl,rfl⟩:=he';have Ie:=apO b l hl3 hb;obtain ⟨f1,f2⟩:=gfr b l Ie hl2;refine ⟨f1,n3 b l WU (l3.dC b l (.inr WU) ?_)⟩;rw [k3,f2];exact Ie) Qf
      refine ⟨⟨c6,hc6,v7 _ _ _⟩,fun apQ=>⟨FB.kept.2.2.2,fun k hk=>FB.old k hk (fun hmu => ?_)⟩⟩;have hu0:u=[]:=by simpa using hkp apQ
      obtain ⟨_,_,Hf⟩:=hm2 k hmu;rw [hu0] at Hf
      cases Hf
end Go.TM
namespace Go.TM
open Go Go.RowKit
end Go.TM
namespace Go.TM
open Go Go.RowKit
end Go.TM
namespace Go.TM
open Go Go.RowKit
theorem Rel.clear {w0:World} {mu:Mu} {c:Cz} {st:St} {a:Act} {w:World} (h:Rel w0 mu c st a w) (P:Nat):Rel w0 mu c (tS (fun s=>{ s with ca:=[],ep:=s.ep+1 }) st P) a w∧Fw c st w c (tS (fun s=>{ s with ca:=[],ep:=s.ep+1 }) st P) w:=by
 have hn:∀s,nth (tS (fun s=>{ s with ca:=[],ep:=s.ep+1 }) st P) s=if s=P then (nth st s).map (fun z=>{ z with ca:=[],ep:=z.ep+1 }) else nth st s:=fun s=>lG _ _ _ _
 generalize tS (fun s=>{ s with ca:=[],ep:=s.ep+1 }) st P=bV at hn ⊢;have mo:Fw c st w c bV w:={
  stays:=lL.refl w _
  refs:=fun a' j' g' A' _ iS=>by
   obtain ⟨sl,k1,k2,k3⟩:=dF iS;rw [hn] at k1
   by_cases e:a'=P
   ·rw [if_pos e] at k1;obtain ⟨z,hz,rfl⟩:=Option.map_eq_some_iff.1 k1;simp [nth] at k3
   ·rw [if_neg e] at k1;exact ⟨A',Ct k1 k2 k3,rfl,rfl,rfl,fun _=>⟨rfl,fun _ _ _ _=>rfl⟩⟩
  HI:=fun b' g' s7 _ uY=>by
   refine ⟨⟨s7,?_⟩,rfl⟩;unfold gi at uY ⊢;rw [hn] at uY
   by_cases e:b'=P
   ·rw [if_pos e] at uY
    cases hz:nth st b' with
    |none=>rw [hz] at uY;cases uY
    |some z=>rw [hz] at uY;exact uY
   ·rw [if_neg e] at uY;exact uY
  gA:=fun s=>by
   unfold hU;rw [hn]
   by_cases e:s=P
   ·rw [if_pos e];cases nth st s<;>simp
   ·rw [if_neg e];exact Nat.le_refl _
  gB:=fun s=>by
   unfold km;rw [hn]
   by_cases e:s=P
   ·rw [if_pos e];cases nth st s<;>simp
   ·rw [if_neg e];exact Nat.le_refl _
  gE:=fun s=>by
   unfold w9;rw [hn]
   by_cases e:s=P
   ·rw [if_pos e];cases nth st s<;>simp
   ·rw [if_neg e];exact Nat.le_refl _ }
 refine ⟨{
  jy:=fun t=>by
   have:dR bV t=dR st t:=by
    unfold dR;rw [hn]
    by_cases e:t=P
    ·rw [if_pos e];cases nth st t<;>rfl
    ·rw [if_neg e]
   rw [this];exact mo.vV (h.jy t)
  boxes:=fun s sl cs hs hb=>by
   rw [hn] at hs
   by_cases e:s=P
   ·rw [if_pos e] at hs;obtain ⟨z,hz,rfl⟩:=Option.map_eq_some_iff.1 hs;exact (h.boxes s z cs hz hb).go mo rfl rfl rfl
   ·rw [if_neg e] at hs;exact (h.boxes s sl cs hs hb).go mo rfl rfl rfl
  ca:=fun s j sl A hs hA=>by
   rw [hn] at hs
   by_cases e:s=P
   ·rw [if_pos e] at hs;obtain ⟨z,hz,rfl⟩:=Option.map_eq_some_iff.1 hs;simp [nth] at hA
   ·rw [if_neg e] at hs;exact h.ca s j sl A hs hA
  owned:=h.owned
  free:=h.free
  kept:=h.kept
  old:=h.old
  plain:=h.plain
  iC:=fun p hp=>mo.iC (h.iC p hp) },mo⟩
theorem SD {α β:Type} (f:α→β):(l:List α)→(n:Nat)→nth (l.map f) n=(nth l n).map f
 | [],_=>rfl
 |_::_,0=>rfl
 |_::l,n+1=>SD f l n
theorem tH (st:St) (s:Nat):nth (yR st) s=(nth st s).map (abM st):=SD _ _ _
theorem Le (st:St) (a j g:Nat):cT (yR st) a j g=cT st a j g:=by
 unfold cT;rw [tH]
 cases nth st a<;>rfl
theorem Lf (st:St) (a:Nat):hU (yR st) a=hU st a:=by
 unfold hU;rw [tH]
 cases nth st a<;>rfl
theorem Lg (st:St) (a:Nat):km (yR st) a=km st a:=by
 unfold km;rw [tH]
 cases nth st a<;>rfl
theorem W9 (st:St) (a:Nat):w9 (yR st) a=w9 st a:=by
 unfold w9;rw [tH]
 cases nth st a<;>rfl
theorem Lh (st:St) (b g:Nat):gi (yR st) b g=(gi st b g).map fun cs=>cs.map (Gq st):=by
 unfold gi;rw [tH]
 cases nth st b with
 |none=>rfl
 |some x=>
  show (bif Nat.beq x.bg g then x.box.map _ else none)=_;simp only
  cases Nat.beq x.bg g<;>rfl
theorem Fw.yR (c:Cz) (st:St) (w:World):Fw c st w c (yR st) w where
 stays:=lL.refl w _
 refs a j g A' _ iS:=by
  rw [Le] at iS;exact ⟨A',iS,rfl,rfl,rfl,fun _=>⟨rfl,fun _ _ _ _=>rfl⟩⟩
 HI b g s7 _ h:=by
  rw [Lh] at h;obtain ⟨cs,h1,_⟩:=Option.map_eq_some_iff.1 h;exact ⟨⟨cs,h1⟩,rfl⟩
 gA a:=by rw [Lf];exact Nat.le_refl _
 gB a:=by rw [Lg];exact Nat.le_refl _
 gE a:=by rw [W9];exact Nat.le_refl _
theorem Ox {w0:World} {mu:Mu} {c:Cz} {st:St} {a:Act} {w:World} (h:Rel w0 mu c st a w) {x:CV} {v:Value} (hr:rj c st w x v):rj c st w (Gq st x) v:=by
 unfold Gq
 split
 ·split
  ·rename_i A hA
   cases ho:A.own with
   |true=>exact hr
   |false=>
    cases hm:A.md.is .sh with
    |false=>exact hr
    |true=>
     have hm:=Md.xJ.1 hm;exact D7 (h.KZ hA) (hr.2.2 A hA) (ok:=c.ok) (fun b h=>h) (fun b q=>by
      rcases q with q | q
      ·rw [ho] at q;cases q
      ·rw [hm] at q;cases q) (by rw [hm];rfl)
  ·exact hr
 ·exact hr
theorem Oy {w0:World} {mu:Mu} {c:Cz} {st:St} {a:Act} {w:World} (h:Rel w0 mu c st a w) {cs:List CV} {vs:List Value} (hr:jf c st w cs vs):jf c (yR st) w (cs.map (Gq st)) vs:=by
 refine ⟨by rw [List.length_map];exact hr.1,fun i x v h1 h2 => ?_⟩;rw [List.getElem?_map] at h1;obtain ⟨y,hy,rfl⟩:=Option.map_eq_some_iff.1 h1;exact (Fw.yR c st w).aaj (Ox h (hr.2 i y v hy h2))
theorem Xa {w0:World} {mu:Mu} {c:Cz} {st:St} {a:Act} {w:World} (h:Rel w0 mu c st a w) {x:V} {v:Value} (hr:iB c st w x v):iB c (yR st) w (WC st x) v:=by
 cases x with
 |one x=>exact (Fw.yR c st w).aaj (Ox h hr)
 |agg cs=>
  obtain ⟨vs,h1,h2⟩:=hr;exact ⟨vs,h1,Oy h h2⟩
 |rb us=>exact (Fw.yR c st w).vV hr
theorem Rel.yR {w0:World} {mu:Mu} {c:Cz} {st:St} {a:Act} {w:World} (h:Rel w0 mu c st a w):Rel w0 mu c (yR st) a w where
 jy t:=by
  have e:dR (Go.TM.yR st) t=WC st (dR st t):=by
   unfold dR;rw [tH]
   cases nth st t<;>rfl
  rw [e];exact Xa h (h.jy t)
 boxes s sl cs hs hb:=by
  rw [tH] at hs;obtain ⟨x,hx,rfl⟩:=Option.map_eq_some_iff.1 hs;have hb:x.box.map (fun cs=>cs.map (Gq st))=some cs:=hb;obtain ⟨Wj,hc,rfl⟩:=Option.map_eq_some_iff.1 hb;obtain ⟨k1,vs,ty,k2,k3⟩:=h.boxes s x Wj hx hc;exact ⟨k1,vs,ty,k2,Oy h k3⟩
 ca s j sl A hs hb:=by
  rw [tH] at hs;obtain ⟨x,hx,rfl⟩:=Option.map_eq_some_iff.1 hs;exact h.ca s j x A hx hb
 owned:=h.owned
 free:=h.free
 kept:=h.kept
 old:=h.old
 plain:=h.plain
 iC p hp:=by
  have h0:=h.iC p hp
  cases p with
  |arr a j g W n l=>
   refine ⟨by rw [Lf];exact h0.1,fun A hA => ?_⟩;rw [Le] at hA;exact h0.2 A hA
  |box b g sj=>
   refine ⟨by rw [Lg];exact h0.1,fun cs yL => ?_⟩;rw [Lh] at yL;obtain ⟨Wj,hc,_⟩:=Option.map_eq_some_iff.1 yL;exact h0.2 Wj hc
theorem Oz {w0:World} {mu:Mu} {c:Cz} {st:St} {a:Act} {w:World} (ms:List (Pm×V)) (h:Rel w0 mu c st a w):Rel w0 mu c (HH ms st) a w∧∀x v,iB c st w x v→iB c (HH ms st) w x v:=by
 unfold HH
 cases ms.any (fun m=>m.1.WD)
 ·exact ⟨h,fun _ _ hr=>hr⟩
 ·exact ⟨h.yR,fun _ _ hr=>(Fw.yR c st w).vV hr⟩
theorem OA {P:Program} {S:nF} (hS:pL P S) {w0:World} {mu:Mu} {c:Cz} {st bV:St} {a:Act} {w:World} (h:Rel w0 mu c st a w) {o:Oper} {f:FuncId} {vals:Array Value} {xs:List V}
  (vY:∀fn,P.funcs[f]?=some fn→fn.name ≠ "runtime.NumGoroutine" → fn.body≠none→(execOp a.eval o).run P w=.ok (.enter f vals) w)
  (abN:xs.length=vals.toList.length) (aj0:∀(k:Nat) (m:V) (x:Value),xs[k]?=some m→vals.toList[k]?=some x→iB c st w m x)
  (hv:(KX S st o.dst f xs).val=some bV) (hd:∀k,o.dst=some k→k<a.tmps.size):C0 P w0 mu bV o a w (vD S st f xs):=by
 unfold vD;unfold KX at hv
 cases hf:S f with
 |none=>simp [hf,N.val] at hv
 |some p=>
  obtain ⟨m1,m2,m3,Hc⟩:=p;simp only [hf] at hv ⊢;obtain ⟨Wn,fn,Xb,apR,aj1⟩:=hS f m1 m2 m3 Hc hf;have vY:=vY fn Xb (by simpa using apR) (by intro e;rw [e] at aj1;cases aj1);have adg:=Ub m1 m2 m3 xs;generalize D4 m1 m2 m3 xs=ms at hv adg ⊢;have hlen:ms.length=vals.toList.length:=by
   have:=congrArg List.length adg;rw [List.length_map] at this;omega
  have Et:∀(k:Nat) (m:Pm×V) (x:Value),ms[k]?=some m→vals.toList[k]?=some x→iB c st w m.2 x:=by
   intro k m x hm hx;have h1:(ms.map (·.2))[k]?=some m.2:=by rw [List.getElem?_map,hm];rfl
   rw [adg] at h1;exact aj0 k m.2 x h1 hx
  have hR:=h.freeze (Kf st ms);have Li:∀(k:Nat) (m:Pm×V) (x:Value),ms[k]?=some m→vals.toList[k]?=some x→iB (c.drop (Kf st ms)) (freeze st (Kf st ms)) w m.2 x:=fun k m x h1 h2=>(Fw.freeze w _ c st).vV (Et k m x h1 h2)
  generalize freeze st (Kf st ms)=aj2 at hv hR Li ⊢;generalize c.drop (Kf st ms)=c0 at hR Li;have Li:∀(k:Nat) (m:Pm×V) (x:Value),ms[k]?=some m→vals.toList[k]?=some x→iB c0 (HH ms aj2) w m.2 x:=fun k m x h1 h2=>(Oz ms hR).2 _ _ (Li k m x h1 h2)
  have hR:=(Oz ms hR).1;generalize HH ms aj2=Fq at hv hR Li ⊢;unfold abL at hv;exact W6 hR vY Wn hlen Li hv hd (fun h=>h) (fun c5 mq a2 w' hr _ _ QF=>by
   simp only [N.val,Option.some.injEq] at QF;subst QF;exact ⟨c5,hr⟩)
theorem Xc {P:Program} {S:nF} (hS:pL P S) {w0:World} {mu:Mu} {c:Cz} {st bV:St} {a:Act} {w:World} (h:Rel w0 mu c st a w) {o:Oper} {f:FuncId} {args:Array Operand} {Wl:Array TypeId} (ho:o.op=.call { callee:=.value (.func f),args:=args,argTypes:=Wl })
  (hv:(KX S st o.dst f (args.toList.map (qM st))).val=some bV) (hd:∀k,o.dst=some k→k<a.tmps.size):C0 P w0 mu bV o a w (kindOk S st o .one):=by
 have hq0:kindOk S st o .one=vD S st f (args.toList.map (qM st)):=by unfold kindOk;simp only [ho]
 rw [hq0];refine OA (vals:=args.map a.eval) hS h (fun fn Xb q2 q3 => ?_) (by simp) (fun k m x hm hx => ?_) hv hd
 ·simp only [execOp,ho];simp [resolve,Act.eval,Deferred.ofValue,invoke,callFunc,Sem.run_bind,Xb,q2,q3]
 ·rw [List.getElem?_map] at hm;rw [Array.toList_map,List.getElem?_map] at hx
  cases hy:args.toList[k]? with
  |none=>rw [hy] at hm;simp at hm
  |some y=>
   rw [hy] at hm hx;simp only [Option.map_some,Option.some.injEq] at hm hx;rw [←hm,←hx];exact cY h y
theorem Xd {P:Program} {S:nF} (hS:pL P S) {w0:World} {mu:Mu} {c:Cz} {st bV:St} {a:Act} {w:World} (h:Rel w0 mu c st a w) {o:Oper} {t g:Nat} {rs:RT} {xs:List (aO rs)} {x:aO rs} {args:Array Operand} {Wl:Array TypeId} (ho:o.op=.call { callee:=.value (.tmp t),args:=args,argTypes:=Wl })
  (ht:dR st t=.one (.fn g rs xs)) (hx0:xs[0]?=some x) (hv:(KX S st o.dst g (args.toList.map (qM st)++AF rs x)).val=some bV) (hd:∀k,o.dst=some k→k<a.tmps.size):C0 P w0 mu bV o a w (kindOk S st o .one):=by
 have hq0:kindOk S st o .one=vD S st g (args.toList.map (qM st)++AF rs x):=by unfold kindOk;simp only [ho,ht,hx0]
 rw [hq0];have Wn:=h.jy t;rw [ht] at Wn;obtain ⟨AU,e,aj3⟩:=Wn;obtain ⟨k1,k2⟩:=Oe (st:=st) rs AU.toList x (aj3 x hx0);refine OA (vals:=args.map a.eval++AU) hS h (fun fn Xb q2 q3 => ?_) (by simp [k1]) (fun k m y hm hy => ?_) hv hd
 ·simp only [execOp,ho];simp [resolve,e,Deferred.ofValue,invoke,callFunc,Sem.run_bind,Xb,q2,q3]
 ·rw [Array.toList_append] at hy
  by_cases hk:k<args.size
  ·rw [List.getElem?_append_left (by simpa using hk)] at hm hy;rw [List.getElem?_map] at hm;rw [Array.toList_map,List.getElem?_map] at hy
   cases hz:args.toList[k]? with
   |none=>rw [hz] at hm;simp at hm
   |some z=>
    rw [hz] at hm hy;simp only [Option.map_some,Option.some.injEq] at hm hy;rw [←hm,←hy];exact cY h z
  ·rw [List.getElem?_append_right (by simp;omega)] at hm hy;simp only [List.length_map,Array.length_toList,Array.toList_map] at hm hy;exact k2 _ m y hm hy
theorem rn {P:Program} {T:pA} (hT:j7 P T) (hE:yX P T) {S:nF} (hS:pL P S) (w0:World) (mu:Mu) (n:Nat):xo P T S w0 mu n:=by
 intro c st bV a w o h hn hd hv;have Wo:∀k,o.dst=some k→k<a.tmps.size:=fun k hk=>by rw [hn];exact hd k hk
 by_cases hf:Op.QC o.op=true
 ·cases ho:o.op with
  |call cl=>
   obtain ⟨callee,args,Wl⟩:=cl
   cases callee with
   |value x=>
    cases x with
    |func f=>
     unfold Sn at hv;simp only [ho] at hv;exact Xc hS h ho hv Wo
    |tmp t=>
     unfold Sn at hv;simp only [ho] at hv
     split at hv
     ·rename_i g rs xs ht
      cases hx0:xs[0]? with
      |none=>simp [hx0,N.val] at hv
      |some x=>
       simp only [hx0] at hv;exact Xd hS h ho ht hx0 hv Wo
     ·simp [N.val] at hv
    |_=>rw [ho] at hf;simp [Op.QC] at hf
   |_=>rw [ho] at hf;simp [Op.QC] at hf
  |_=>rw [ho] at hf;simp [Op.QC] at hf
 ·exact ac7 hT hE h (by simpa using hf) hv Wo
end Go.TM
namespace Go.TM
open Go Go.RowKit
inductive OP where
 |int (k:IntKind)
 |bool
 |str
 |own (r:RT) (d:Md:=.sh)
 |shr (r:RT)
 |oe (r:RT)
 |fn (g:Nat) (rs:RT)
inductive AP where
 |val (agg:Bool) (ps:List OP)
 |io (r:RT) (d:Md:=.sh)
 |box (Mq:Bool) (ps:List OP)
 |dX (ps:List OP)
def OP.ty:OP→Ty
 |.int k=>.int k
 |.bool=>.bool
 |.str=>.str
 |.own r _=>.sl r
 |.shr r=>.sl r
 |.oe r=>.sl r
 |.fn _ rs=>.sl rs
def OP.sg:OP→Bool
 |.own _ _=>true
 |_=>false
def pZ:List OP→RT→RT
 | [],t=>t
 |p::ps,t=>.cons p.ty (pZ ps t)
def AP.rt:AP→RT→RT
 |.val _ ps,t=>pZ ps t
 |.io r _,t=>.cons (.sl r) t
 |.box _ ps,t=>pZ ps t
 |.dX ps,t=>pZ ps t
def aM:List (Option AP)→RT
 | []=>.nil
 |none::l=>aM l
 |some p::l=>p.rt (aM l)
def OP.ov:(p:OP)→den p.ty→OV
 |.int k,n=>.int k n
 |.bool,b=>.bool b
 |.str,s=>.str s
 |.own r d,xs=>.own { r:=r,own:=true,xs:=xs,md:=d }
 |.shr r,xs=>.shr r xs
 |.oe r,xs=>.oe r xs
 |.fn g rs,xs=>.fn g rs xs
def fT:(ps:List OP)→(t:RT)→aO (pZ ps t)→List OV×aO t
 | [],_,x=>([],x)
 |p::ps,t,x=>(p.ov x.1::(fT ps t x.2).1,(fT ps t x.2).2)
def AP.av:(p:AP)→(t:RT)→aO (p.rt t)→AV×aO t
 |.val agg ps,t,x=>(.val agg (fT ps t x).1,(fT ps t x).2)
 |.io r d,_,x=>(.io { r:=r,own:=true,xs:=x.1,md:=d },x.2)
 |.box _ ps,t,x=>(.box (fT ps t x).1,(fT ps t x).2)
 |.dX ps,t,x=>(.dX (fT ps t x).1,(fT ps t x).2)
def ef:(l:List (Option AP))→aO (aM l)→List (Option AV)
 | [],_=>[]
 |none::l,x=>none::ef l x
 |some p::l,x=>some (p.av (aM l) x).1::ef l (p.av (aM l) x).2
def we:(p:OP)→OV→Option (den p.ty)
 |.int k,.int l n=>if k=l then some n else none
 |.bool,.bool b=>some b
 |.str,.str s=>some s
 |.own r d,.own A=>bif A.md.is d then ek r A.xs else none
 |.own _ _,.gJ=>some ([]:List _)
 |.shr r,.shr _ xs=>ek r xs
 |.shr _,.gJ=>some ([]:List _)
 |.oe r,.oe _ xs=>ek r xs
 |.fn g rs,.fn f _ xs=>bif Nat.beq f g then ek rs xs else none
 |_,_=>none
def fL:(ps:List OP)→(t:RT)→List OV→aO t→Option (aO (pZ ps t))
 | [],_,[],y=>some y
 |p::ps,t,o::os,y=>match we p o,fL ps t os y with
  |some x,some z=>some (x,z)
  |_,_=>none
 |_,_,_,_=>none
def Lj:(p:AP)→(t:RT)→AV→aO t→Option (aO (p.rt t))
 |.val true ps,t,.val true os,y=>fL ps t os y
 |.val false ps,t,.val false os,y=>fL ps t os y
 |.io r d,_,.io A,y=>bif A.md.is d then (match ek r A.xs with
  |some xs=>some (xs,y)
  |none=>none) else none
 |.box _ ps,t,.box os,y=>fL ps t os y
 |.dX ps,t,.dX os,y=>fL ps t os y
 |_,_,_,_=>none
def iE:(l:List AP)→List AV→Option (aO (aM (l.map some)))
 | [],[]=>some ()
 |p::l,a::as=>match iE l as with
  |some y=>Lj p (aM (l.map some)) a y
  |none=>none
 |_,_=>none
def ou (st:St):(ps:List OP)→(t:RT)→List CV→aO t→Option (aO (pZ ps t)×List (Option Lb)×List (Nat×Nat))
 | [],_,[],y=>some (y,[],[])
 |p::ps,t,c::cs,y=>match lK st p.sg c,ou st ps t cs y with
  |some (o,u,r),some (z,us,rs)=>match we p o with
   |some x=>some ((x,z),u::us,r++rs)
   |none=>none
  |_,_=>none
 |_,_,_,_=>none
def GC (st:St) (k:Nat):(p:AP)→(t:RT)→V→aO t→Option (aO (p.rt t)×List Lb×List (Nat×Nat))
 |.val agg ps,t,v,y=>
  match agg,v with
  |true,.agg cs=>(ou st ps t cs y).map fun q=>(q.1,dS q.2.1,q.2.2)
  |false,.one c=>(ou st ps t [c] y).map fun q=>(q.1,dS q.2.1,q.2.2)
  |_,_=>none
 |.io r d,_,v,y=>
  match v with
  |.one (.ref a j g .full)=>bif Nat.beq a k&&(Nat.beq j 0&&Nat.beq g 1) then ((cT st a j g).bind fun A=>bif A.own&&A.md.is d then (ek r A.xs).map fun xs=>((xs,y),[.sp a j],[]) else none) else none
  |_=>none
 |.box Mq ps,t,v,y=>
  match v with
  |.one (.ptr b g off)=>bif Nat.beq off 0&&(!Mq||(Nat.beq b k&&Nat.beq g 1)) then ((gi st b g).bind fun cs=>(ou st ps t cs y).map fun q=>(q.1,.box b::dS q.2.1,q.2.2)) else none
  |_=>none
 |.dX _,_,_,_=>none
def rp (st:St):(k:Nat)→(l:List (Option AP))→Option (aO (aM l)×List Lb×List (Nat×Nat))
 |_,[]=>some ((),[],[])
 |k,none::l=>rp st (k+1) l
 |k,some p::l=>match rp st (k+1) l with
  |some (y,us,rs)=>match GC st k p (aM l) (dR st k) y with
   |some (x,u,r)=>some (x,u++us,r++rs)
   |none=>none
  |none=>none
def Sl.blank:Sl:={ v:=.one .bad,box:=.none,bg:=1,ca:=[],ag:=1 }
def fp (k:Nat):Option AV→Sl
 |none=>Sl.blank
 |some (.dX os)=>{ v:=.agg (ch k 1 0 os),box:=none,bg:=1,ca:=cD os,ag:=1 }
 |some (.val true os)=>{ v:=.agg (ch k 1 0 os),box:=none,bg:=1,ca:=cD os,ag:=1 }
 |some (.val false os)=>{ v:=match ch k 1 0 os with | [c]=>.one c | _=>.one .bad,box:=none,bg:=1,ca:=cD os,ag:=1 }
 |some (.io A)=>{ v:=.one (.ref k 0 1 .full),box:=none,bg:=1,ca:=[some A],ag:=1 }
 |some (.box os)=>{ v:=.one (.ptr k 1 0),box:=some (ch k 1 0 os),bg:=1,ca:=cD os,ag:=1 }
def sk:(k:Nat)→List (Option AV)→St
 |_,[]=>[]
 |k,a::l=>fp k a::sk (k+1) l
theorem Lk:(l:List (Option AV))→(k i:Nat)→nth (sk k l) i=(l[i]?).map (fp (k+i))
 | [],_,_=>by simp [sk]
 |a::l,k,0=>by simp [sk,nth]
 |a::l,k,i+1=>by
  simp only [sk,nth,List.getElem?_cons_succ];rw [Lk l (k+1) i,show k+1+i=k+(i+1) by omega]
theorem OB {c:Cz} {w:World} {f:Nat→Lb} {j:Nat}:(p:OP)→(o:OV)→(x:den p.ty)→we p o=some x→{os Fp:List OV}→{vs:List Value}→(∀l,cN c w f (j+1) os l→cN c w f (j+1) Fp l)→cN c w f j (o::os) vs→cN c w f j (p.ov x::Fp) vs
 |.int k,.int l n,x,hx,os,Fp,vs,ye,h=>by
  have hx:(if k=l then some (n:Int) else none)=some (x:Int):=hx
  by_cases e:k=l
  ·rw [if_pos e] at hx;have hx:n=x:=Option.some.inj hx;obtain ⟨l',h1,h2⟩:=h;exact ⟨l',by rw [h1,e,hx],ye _ h2⟩
  ·rw [if_neg e] at hx
   cases hx
 |.bool,.bool b,x,hx,os,Fp,vs,ye,h=>by
  have hx:b=x:=Option.some.inj hx;subst hx;obtain ⟨l',h1,h2⟩:=h;exact ⟨l',h1,ye _ h2⟩
 |.str,.str b,x,hx,os,Fp,vs,ye,h=>by
  have hx:b=x:=Option.some.inj hx;subst hx;obtain ⟨l',h1,h2⟩:=h;exact ⟨l',h1,ye _ h2⟩
 |.own r d,.own A,x,hx,os,Fp,vs,ye,h=>by
  obtain ⟨v,l',h1,⟨lc,h2⟩,h3⟩:=h;have hx:(bif A.md.is d then ek r A.xs else none)=some x:=hx;obtain ⟨hd,hx⟩:=bM hx;have hd:=Md.xJ.1 hd;obtain ⟨e,rfl⟩:=dh hx;obtain ⟨r0,Ud,uT,md0⟩:=A;simp only at e hd;subst e;have ho:Ud=true:=h2.2.2.1;subst ho;exact ⟨v,l',h1,⟨lc,h2⟩,ye _ h3⟩
 |.own r _,.gJ,x,hx,os,Fp,vs,ye,h=>by
  have hx:([]:List (aO r))=x:=Option.some.inj hx;subst hx;obtain ⟨l',h1,h2⟩:=h;exact ⟨_,l',h1,⟨.nil,rfl,⟨rfl,rfl⟩,rfl,rfl⟩,ye _ h2⟩
 |.shr r,.shr q xs,x,hx,os,Fp,vs,ye,h=>by
  obtain ⟨v,l',h1,h2,h3⟩:=h;have hx:ek r xs=some x:=hx;obtain ⟨e,rfl⟩:=dh hx;subst e;exact ⟨v,l',h1,h2,ye _ h3⟩
 |.shr r,.gJ,x,hx,os,Fp,vs,ye,h=>by
  have hx:([]:List (aO r))=x:=Option.some.inj hx;subst hx;obtain ⟨l',h1,h2⟩:=h;exact ⟨_,l',h1,(si _ _ _ _ _).2 (.inl ⟨rfl,rfl⟩),ye _ h2⟩
 |.oe r,.oe q xs,x,hx,os,Fp,vs,ye,h=>by
  obtain ⟨v,l',h1,h2,h3⟩:=h;have hx:ek r xs=some x:=hx;obtain ⟨e,rfl⟩:=dh hx;subst e;exact ⟨v,l',h1,h2,ye _ h3⟩
 |.fn g r,.fn f q xs,x,hx,os,Fp,vs,ye,h=>by
  obtain ⟨v,l',h1,h2,h3⟩:=h;have hx:(bif Nat.beq f g then ek r xs else none)=some x:=hx;obtain ⟨hfg,hx⟩:=bM hx;have hfg:=Nat.eq_of_beq_eq_true hfg;subst hfg;obtain ⟨e,rfl⟩:=dh hx;subst e;exact ⟨v,l',h1,h2,ye _ h3⟩
 |.int _,.bool _,_,hx,_,_,_,_,_=>by cases hx
 |.int _,.str _,_,hx,_,_,_,_,_=>by cases hx
 |.int _,.own _,_,hx,_,_,_,_,_=>by cases hx
 |.int _,.shr _ _,_,hx,_,_,_,_,_=>by cases hx
 |.int _,.gJ,_,hx,_,_,_,_,_=>by cases hx
 |.int _,.oe _ _,_,hx,_,_,_,_,_=>by cases hx
 |.int _,.fn _ _ _,_,hx,_,_,_,_,_=>by cases hx
 |.bool,.int _ _,_,hx,_,_,_,_,_=>by cases hx
 |.bool,.str _,_,hx,_,_,_,_,_=>by cases hx
 |.bool,.own _,_,hx,_,_,_,_,_=>by cases hx
 |.bool,.shr _ _,_,hx,_,_,_,_,_=>by cases hx
 |.bool,.gJ,_,hx,_,_,_,_,_=>by cases hx
 |.bool,.oe _ _,_,hx,_,_,_,_,_=>by cases hx
 |.bool,.fn _ _ _,_,hx,_,_,_,_,_=>by cases hx
 |.str,.int _ _,_,hx,_,_,_,_,_=>by cases hx
 |.str,.bool _,_,hx,_,_,_,_,_=>by cases hx
 |.str,.own _,_,hx,_,_,_,_,_=>by cases hx
 |.str,.shr _ _,_,hx,_,_,_,_,_=>by cases hx
 |.str,.gJ,_,hx,_,_,_,_,_=>by cases hx
 |.str,.oe _ _,_,hx,_,_,_,_,_=>by cases hx
 |.str,.fn _ _ _,_,hx,_,_,_,_,_=>by cases hx
 |.own _ _,.int _ _,_,hx,_,_,_,_,_=>by cases hx
 |.own _ _,.bool _,_,hx,_,_,_,_,_=>by cases hx
 |.own _ _,.str _,_,hx,_,_,_,_,_=>by cases hx
 |.own _ _,.shr _ _,_,hx,_,_,_,_,_=>by cases hx
 |.own _ _,.oe _ _,_,hx,_,_,_,_,_=>by cases hx
 |.own _ _,.fn _ _ _,_,hx,_,_,_,_,_=>by cases hx
 |.shr _,.int _ _,_,hx,_,_,_,_,_=>by cases hx
 |.shr _,.bool _,_,hx,_,_,_,_,_=>by cases hx
 |.shr _,.str _,_,hx,_,_,_,_,_=>by cases hx
 |.shr _,.own _,_,hx,_,_,_,_,_=>by cases hx
 |.shr _,.oe _ _,_,hx,_,_,_,_,_=>by cases hx
 |.shr _,.fn _ _ _,_,hx,_,_,_,_,_=>by cases hx
 |.oe _,.int _ _,_,hx,_,_,_,_,_=>by cases hx
 |.oe _,.bool _,_,hx,_,_,_,_,_=>by cases hx
 |.oe _,.str _,_,hx,_,_,_,_,_=>by cases hx
 |.oe _,.own _,_,hx,_,_,_,_,_=>by cases hx
 |.oe _,.shr _ _,_,hx,_,_,_,_,_=>by cases hx
 |.oe _,.gJ,_,hx,_,_,_,_,_=>by cases hx
 |.oe _,.fn _ _ _,_,hx,_,_,_,_,_=>by cases hx
 |.fn _ _,.int _ _,_,hx,_,_,_,_,_=>by cases hx
 |.fn _ _,.bool _,_,hx,_,_,_,_,_=>by cases hx
 |.fn _ _,.str _,_,hx,_,_,_,_,_=>by cases hx
 |.fn _ _,.own _,_,hx,_,_,_,_,_=>by cases hx
 |.fn _ _,.shr _ _,_,hx,_,_,_,_,_=>by cases hx
 |.fn _ _,.gJ,_,hx,_,_,_,_,_=>by cases hx
 |.fn _ _,.oe _ _,_,hx,_,_,_,_,_=>by cases hx
theorem yj {c:Cz} {w:World} {f:Nat→Lb}:(ps:List OP)→(t:RT)→(os:List OV)→(y:aO t)→{x:aO (pZ ps t)}→fL ps t os y=some x→(fT ps t x).2=y∧∀(j:Nat) (vs:List Value),cN c w f j os vs→cN c w f j (fT ps t x).1 vs
 | [],t,[],y,x,h=>by
  have h:y=x:=Option.some.inj h;subst h;exact ⟨rfl,fun _ _ h=>h⟩
 | [],_,_::_,_,_,h=>by simp [fL] at h
 |_::_,_,[],_,_,h=>by simp [fL] at h
 |p::ps,t,o::os,y,x,h=>by
  unfold fL at h
  cases h1:we p o with
  |none=>simp [h1] at h
  |some a=>
   cases h2:fL ps t os y with
   |none=>simp [h1,h2] at h
   |some z=>
    simp only [h1,h2] at h;have h:(a,z)=x:=Option.some.inj h;subst h;obtain ⟨g1,g2⟩:=yj (c:=c) (w:=w) (f:=f) ps t os y h2;exact ⟨g1,fun j vs hh=>OB p o a h1 (fun l=>g2 (j+1) l) hh⟩
theorem cN.Xe {c:Cz} {w:World} {f:Nat→Lb}:(os:List OV)→(j:Nat)→(vs:List Value)→cN c w f j os vs→vs.length=os.length∧∀(k:Nat) (o:OV) (u:Value),os[k]?=some o→vs[k]?=some u→cN c w f (j+k) [o] [u]
 | [],j,vs,h=>by
  subst h;exact ⟨rfl,fun k o u h=>by simp at h⟩
 |o::os,j,vs,h=>by
  obtain ⟨v,l,rfl,h1,h2⟩:∃v l,vs=v::l∧cN c w f j [o] [v]∧cN c w f (j+1) os l:=by
   cases o with
   |int k n=>obtain ⟨l,h1,h2⟩:=h;exact ⟨_,l,h1,⟨[],rfl,rfl⟩,h2⟩
   |bool b=>obtain ⟨l,h1,h2⟩:=h;exact ⟨_,l,h1,⟨[],rfl,rfl⟩,h2⟩
   |str b=>obtain ⟨l,h1,h2⟩:=h;exact ⟨_,l,h1,⟨[],rfl,rfl⟩,h2⟩
   |gJ=>obtain ⟨l,h1,h2⟩:=h;exact ⟨_,l,h1,⟨[],rfl,rfl⟩,h2⟩
   |shr r xs=>obtain ⟨v,l,h1,h2,h3⟩:=h;exact ⟨v,l,h1,⟨v,[],rfl,h2,rfl⟩,h3⟩
   |oe r xs=>obtain ⟨v,l,h1,h2,h3⟩:=h;exact ⟨v,l,h1,⟨v,[],rfl,h2,rfl⟩,h3⟩
   |fn g r xs=>obtain ⟨v,l,h1,h2,h3⟩:=h;exact ⟨v,l,h1,⟨v,[],rfl,h2,rfl⟩,h3⟩
   |own A=>obtain ⟨v,l,h1,h2,h3⟩:=h;exact ⟨v,l,h1,⟨v,[],rfl,h2,rfl⟩,h3⟩
  obtain ⟨g1,g2⟩:=cN.Xe os (j+1) l h2;refine ⟨by simp [g1],fun k o' u ho hu => ?_⟩
  cases k with
  |zero=>
   simp only [List.getElem?_cons_zero,Option.some.injEq] at ho hu;subst ho hu;exact h1
  |succ k=>
   have:=g2 k o' u (by simpa using ho) (by simpa using hu)
   rwa [show j+1+k=j+(k+1) by omega] at this
theorem Ll:(ps:List OP)→(t:RT)→(os:List OV)→(y:aO t)→{x:aO (pZ ps t)}→fL ps t os y=some x→∀(k:Nat) (o':OV),(fT ps t x).1[k]?=some o'→∃(p:OP) (o:OV) (z:den p.ty),os[k]?=some o∧we p o=some z∧o'=p.ov z
 | [],t,[],y,x,h=>by
  intro k o' hk;simp [fT] at hk
 | [],_,_::_,_,_,h=>by simp [fL] at h
 |_::_,_,[],_,_,h=>by simp [fL] at h
 |p::ps,t,o::os,y,x,h=>by
  unfold fL at h
  cases h1:we p o with
  |none=>simp [h1] at h
  |some a=>
   cases h2:fL ps t os y with
   |none=>simp [h1,h2] at h
   |some z=>
    simp only [h1,h2] at h;have h:(a,z)=x:=Option.some.inj h;subst h;intro k o' hk
    cases k with
    |zero=>
     have hk:some (p.ov a)=some o':=hk;simp only [Option.some.injEq] at hk;exact ⟨p,o,a,rfl,h1,hk.symm⟩
    |succ k=>
     have hk:(fT ps t z).1[k]?=some o':=hk;obtain ⟨p',o1,z',q1,q2,q3⟩:=Ll ps t os y h2 k o' hk;exact ⟨p',o1,z',by simpa using q1,q2,q3⟩
theorem Ue {p:OP} {o:OV} {z:den p.ty} (h:we p o=some z) {A:nY} (he:p.ov z=.own A):(∃B,o=.own B∧A.r=B.r∧A.own=true∧A.xs.length=B.xs.length∧(B.own=true→A=B))∨(o=.gJ∧∃r d,A={ r:=r,own:=true,xs:=([]:List (aO r)),md:=d }):=by
 cases p with
 |own r d=>
  injection he with he;subst he
  cases o with
  |own B=>
   have h:(bif B.md.is d then ek r B.xs else none)=some z:=h;obtain ⟨hd,h⟩:=bM h;have hd:=Md.xJ.1 hd;obtain ⟨e,rfl⟩:=dh h;obtain ⟨r0,Ud,uT,md0⟩:=B;simp only at e hd;subst e;exact .inl ⟨_,rfl,rfl,rfl,rfl,fun ho=>by simp only at ho;subst ho;rfl⟩
  |gJ=>
   have h:([]:List (aO r))=z:=Option.some.inj h;subst h;exact .inr ⟨rfl,r,d,rfl⟩
  |_=>cases h
 |int _=>cases he
 |bool=>cases he
 |str=>cases he
 |shr _=>cases he
 |oe _=>cases he
 |fn _ _=>cases he
theorem OC {p:OP} (z:den p.ty):p.ov z≠.gJ:=by
 cases p<;>(intro h;cases h)
theorem OD {c:Cz} {w:World} {i:Nat} {lc:Nat→Loc} {p:AP} {t:RT} {av:AV} {y:aO t} {x:aO (p.rt t)} (h:Lj p t av y=some x):(p.av t x).2=y∧∀v,xp c w i lc av v→xp c w i lc (p.av t x).1 v:=by
 cases p with
 |val agg ps=>
  cases agg with
  |true=>
   cases av with
   |val aax os=>
    cases aax with
    |true=>
     have h:fL ps t os y=some x:=h;obtain ⟨g1,g2⟩:=yj (c:=c) (w:=w) (f:=.dC i) ps t os y h;exact ⟨g1,fun v ⟨vs,hv,hl⟩=>⟨vs,hv,g2 0 _ hl⟩⟩
    |false=>cases h
   |_=>cases h
  |false=>
   cases av with
   |val aax os=>
    cases aax with
    |false=>
     have h:fL ps t os y=some x:=h;obtain ⟨g1,g2⟩:=yj (c:=c) (w:=w) (f:=.dC i) ps t os y h;exact ⟨g1,fun v hl=>g2 0 _ hl⟩
    |true=>cases h
   |_=>cases h
 |io r d=>
  cases av with
  |io A=>
   have h:(bif A.md.is d then (match ek r A.xs with | some xs=>some ((xs,y):aO (.cons (.sl r) t)) | none=>none) else none)=some x:=h;obtain ⟨hd,h⟩:=bM h;have hd:=Md.xJ.1 hd
   cases hc:ek r A.xs with
   |none=>rw [hc] at h;cases h
   |some xs=>
    rw [hc] at h
    cases h
    refine ⟨rfl,fun v hl => ?_⟩;obtain ⟨e,rfl⟩:=dh hc;obtain ⟨r0,Ud,uT,md0⟩:=A;simp only at e hd;subst e;have ho:Ud=true:=hl.2.2.1;subst ho;exact hl
  |_=>cases h
 |box Mq ps=>
  cases av with
  |box os=>
   have h:fL ps t os y=some x:=h;obtain ⟨g1,g2⟩:=yj (c:=c) (w:=w) (f:=.dC i) ps t os y h;exact ⟨g1,fun v ⟨sj,vs,ty,q1,q2,q3,q4⟩=>⟨sj,vs,ty,q1,q2,q3,g2 0 _ q4⟩⟩
  |_=>cases h
 |dX ps=>
  cases av with
  |dX os=>
   have h:fL ps t os y=some x:=h;obtain ⟨g1,g2⟩:=yj (c:=c) (w:=w) (f:=.dC i) ps t os y h;refine ⟨g1,fun v ⟨vs,q1,q2,q3⟩=>⟨vs,q1,g2 0 _ q2,fun j o u ho hu => ?_⟩⟩;obtain ⟨p,o0,z,k1,k2,rfl⟩:=Ll ps t os y h j o ho;have h0:=q3 j o0 u k1 hu;have hL:=(cN.Xe os 0 _ q2).2 j o0 u k1 hu;unfold WY at h0 ⊢
   cases he:p.ov z with
   |gJ=>exact absurd he (OC z)
   |own A=>
    rcases Ue k2 he with ⟨B,rfl,e1,e2,e3,e4⟩ | ⟨rfl,r,d,rfl⟩
    ·have h0:OwnAt c w (.dC i j) (lc j) B u:=h0;have:=e4 h0.2.2.1;subst this;exact h0
    ·have h0:lc j=.nil:=h0;obtain ⟨l,hl,_⟩:=hL;injection hl with hl _;subst hl;show OwnAt c w (.dC i j) (lc j) _ _;rw [h0];exact ⟨rfl,⟨rfl,rfl⟩,rfl,rfl⟩
   |_=>trivial
  |_=>cases h
end Go.TM
namespace Go.TM
open Go Go.RowKit
theorem Bs {w0:World} {mu:Mu} {c:Cz} {st:St} {a:Act} {w:World} (h:Rel w0 mu c st a w) {ρ:Lb→Option Lb} {f:Nat→Lb}:(ps:List OP)→(t:RT)→(cs:List CV)→(y:aO t)→(vs:List Value)→(j:Nat)→jf c st w cs vs→{x:aO (pZ ps t)}→{u:List (Option Lb)}→{r:List (Nat×Nat)}→
  ou st ps t cs y=some (x,u,r)→(fT ps t x).2=y∧(∀l∈dS u,l.real=true)∧((∀k l,nth u k=some (some l)→ρ l=some (f (j+k)))→(∀p∈r,ρ (.sp p.1 p.2)=none)→cN (c.map ρ) w f j (fT ps t x).1 vs)
 | [],t,[],y,vs,j,hl,x,u,r,he=>by
  have he:some (y,([]:List (Option Lb)),([]:List (Nat×Nat)))=some (x,u,r):=he;injection he with he;injection he with e1 e2;injection e2 with e2 e3;subst e1 e2 e3;have:=hl.1;simp at this;exact ⟨rfl,by simp [dS],fun _ _=>List.length_eq_zero_iff.1 this.symm⟩
 | [],t,_::_,y,vs,j,hl,x,u,r,he=>by simp [ou] at he
 |_::_,t,[],y,vs,j,hl,x,u,r,he=>by simp [ou] at he
 |p::ps,t,cx::cs,y,vs,j,hl,x,u,r,he=>by
  obtain ⟨v,l,rfl,hx,Cm⟩:=hl.abR;unfold ou at he
  cases hc:lK st p.sg cx with
  |none=>simp [hc] at he
  |some q1=>
   obtain ⟨o,u1,r1⟩:=q1
   cases hq:ou st ps t cs y with
   |none=>simp [hc,hq] at he
   |some q2=>
    obtain ⟨z,us,rs⟩:=q2;simp only [hc,hq] at he
    cases ho:we p o with
    |none=>simp [ho] at he
    |some a1=>
     simp only [ho] at he;injection he with he;injection he with e1 e2;injection e2 with e2 e3;subst e1 e2 e3;obtain ⟨g1,g2,g3⟩:=Bs h (ρ:=ρ) (f:=f) ps t cs y l (j+1) Cm hq;refine ⟨g1,fun l' hm => ?_,fun hu hr => ?_⟩
     ·rw [lN] at hm;rcases List.mem_cons.1 hm with hm | hm
      ·obtain ⟨s,k,rfl⟩:=K7 hc l' hm.symm;rfl
      ·exact g2 l' (lN.2 hm)
     ·have ic:=g3 (fun k' l' hk=>by
       have:=hu (k'+1) l' hk
       rwa [show j+(k'+1)=j+1+k' by omega] at this) (fun p hp=>hr p (List.mem_append_right _ hp))
      have h1:=Sz h (f:=f) (j:=j) hx hc (fun l' Cm=>hu 0 l' (by rw [Cm];rfl)) (fun p hp=>hr p (List.mem_append_left _ hp)) ic;exact OB p o a1 ho (fun _ h=>h) h1
def FD (c:Cz) (w:World) (lc:Nat→Nat→Loc) (a:Act) (k:Nat) (l:List (Option AV)):Prop:=
 ∀i av,l[i]?=some (some av)→xp c w (k+i) (lc (k+i)) av (a.eval (.tmp (k+i)))
theorem Ev {w0:World} {mu:Mu} {c:Cz} {st:St} {a:Act} {w:World} (h:Rel w0 mu c st a w) (k:Nat) {p:AP} {t:RT} {V:V} {y:aO t} {v:Value} (hV:iB c st w V v) {x:aO (p.rt t)} {u:List Lb} {r:List (Nat×Nat)} (he:GC st k p t V y=some (x,u,r)) :
  (p.av t x).2=y∧(∀l∈u,l.real=true)∧∃tb:List (Lb×Lb),tb.map (·.1)=u∧(∀p∈tb,p.2.om=true)∧∀ρ:Lb→Option Lb,(∀p∈tb,ρ p.1=some p.2)→(∀p∈r,ρ (.sp p.1 p.2)=none)→xp (c.map ρ) w k (c.lc k) (p.av t x).1 v:=by
 have vals:∀(ps:List OP) (cs:List CV) (x:aO (pZ ps t)) (us:List (Option Lb)) (rs:List (Nat×Nat)) (vs:List Value),jf c st w cs vs→ou st ps t cs y=some (x,us,rs)→(fT ps t x).2=y∧(∀l∈dS us,l.real=true)∧
   ∀ρ:Lb→Option Lb,(∀p∈Ep (.dC k) 0 us,ρ p.1=some p.2)→(∀p∈rs,ρ (.sp p.1 p.2)=none)→cN (c.map ρ) w (.dC k) 0 (fT ps t x).1 vs:=by
  intro ps cs x us rs vs hl hq;refine ⟨(Bs h (ρ:=fun _=>none) (f:=.dC k) ps t cs y vs 0 hl hq).1,(Bs h (ρ:=fun _=>none) (f:=.dC k) ps t cs y vs 0 hl hq).2.1,fun ρ hp hr=>(Bs h (ρ:=ρ) (f:=.dC k) ps t cs y vs 0 hl hq).2.2 (fun k' l hk => ?_) hr⟩;have:=hp _ (Br (.dC k) 0 us k' l hk);simpa using this
 cases p with
 |val agg ps=>
  cases agg with
  |true=>
   cases V with
   |agg cs=>
    have he:(ou st ps t cs y).map (fun q=>(q.1,dS q.2.1,q.2.2))=some (x,u,r):=he
    cases hq:ou st ps t cs y with
    |none=>rw [hq] at he;cases he
    |some q=>
     obtain ⟨z,us,rs⟩:=q;rw [hq] at he;injection he with he;injection he with e1 e2;injection e2 with e2 e3;subst e1 e2 e3;obtain ⟨vs,rfl,hl⟩:=hV;obtain ⟨g1,g2,g3⟩:=vals _ _ _ _ _ _ hl hq;exact ⟨g1,g2,mB k (.val true []) [] us,qv _ _ _ _,qw _ _ _ _,fun ρ hp hr=>⟨vs,rfl,g3 ρ (fun p mj=>hp p (by simpa [mB] using mj)) hr⟩⟩
   |one _=>cases he
   |rb _=>cases he
  |false=>
   cases V with
   |one cx=>
    have he:(ou st ps t [cx] y).map (fun q=>(q.1,dS q.2.1,q.2.2))=some (x,u,r):=he
    cases hq:ou st ps t [cx] y with
    |none=>rw [hq] at he;cases he
    |some q=>
     obtain ⟨z,us,rs⟩:=q;rw [hq] at he;injection he with he;injection he with e1 e2;injection e2 with e2 e3;subst e1 e2 e3;obtain ⟨g1,g2,g3⟩:=vals _ _ _ _ _ [v] ⟨rfl,fun k y z hy hz=>by
      cases k with
      |zero=>simp at hy hz;subst hy hz;exact hV
      |succ k=>simp at hy⟩ hq
     exact ⟨g1,g2,mB k (.val true []) [] us,qv _ _ _ _,qw _ _ _ _,fun ρ hp hr=>g3 ρ (fun p mj=>hp p (by simpa [mB] using mj)) hr⟩
   |agg _=>cases he
   |rb _=>cases he
 |io rr d=>
  cases V with
  |one cx=>
   cases cx with
   |ref s j g vw=>
    cases vw with
    |full=>
     have he:(bif Nat.beq s k&&(Nat.beq j 0&&Nat.beq g 1) then ((cT st s j g).bind fun A=>bif A.own&&A.md.is d then (ek rr A.xs).map fun xs=>((xs,y),[Lb.sp s j],([]:List (Nat×Nat))) else none) else none)=some (x,u,r):=he;obtain ⟨h1,CL⟩:=bM he;clear he;rw [Bool.and_eq_true,Bool.and_eq_true] at h1;have e1:=Nat.eq_of_beq_eq_true h1.1;have e2:=Nat.eq_of_beq_eq_true h1.2.1;subst e1 e2
     cases hA:cT st s 0 g with
     |none=>rw [hA] at CL;cases CL
     |some A=>
      rw [hA] at CL;obtain ⟨ho,he2⟩:=bM CL;rw [Bool.and_eq_true] at ho;have hd:=Md.xJ.1 ho.2;have ho:=ho.1
      cases hc:ek rr A.xs with
      |none=>rw [hc] at he2;cases he2
      |some xs=>
       rw [hc] at he2;injection he2 with he2;injection he2 with e1 e2;injection e2 with e2 e3;subst e1 e2 e3;refine ⟨rfl,by simp [Lb.real],[(.sp s 0,.dC s 0)],rfl,by simp [Lb.om],fun ρ hp _ => ?_⟩;have ha:=El h hA;have hs:=hV.2.2 A hA;have hρ:ρ (.sp s 0)=some (.dC s 0):=hp (.sp s 0,.dC s 0) (by simp);obtain ⟨e,rfl⟩:=dh hc;obtain ⟨r0,Ud,uT,md0⟩:=A;simp only at e hd;subst e;have ho:Ud=true:=by first | exact ho | exact ho.1
       subst ho;refine ⟨hV.1,hs,rfl,?_⟩;unfold fQ at ha
       cases nZ:c.lc s 0 with
       |nil=>rw [nZ] at ha;exact ha
       |«at» b off cap=>
        rw [nZ] at ha;obtain ⟨h0,h2,h3,h4⟩:=ha;exact ⟨(Cz.o7 h0).trans hρ,h2,h3,h4.map hρ⟩
    |«from» _=>cases he
    |sub _ _=>cases he
   |_=>cases he
  |agg _=>cases he
  |rb _=>cases he
 |box Mq ps=>
  cases V with
  |one cx=>
   cases cx with
   |ptr b g off=>
    have he:(bif Nat.beq off 0&&(!Mq||(Nat.beq b k&&Nat.beq g 1)) then ((gi st b g).bind fun cs=>(ou st ps t cs y).map fun q=>(q.1,Lb.box b::dS q.2.1,q.2.2)) else none)=some (x,u,r):=he;obtain ⟨h1,CL⟩:=bM he;clear he;rw [Bool.and_eq_true] at h1;have e1:=Nat.eq_of_beq_eq_true h1.1;subst e1
    cases hb:gi st b g with
    |none=>rw [hb] at CL;cases CL
    |some cs=>
     rw [hb] at CL;simp only [Option.bind_some] at CL
     cases hq:ou st ps t cs y with
     |none=>rw [hq] at CL;cases CL
     |some q=>
      obtain ⟨z,us,rs⟩:=q;rw [hq] at CL;injection CL with CL;injection CL with e1 e2;injection e2 with e2 e3;subst e1 e2 e3;obtain ⟨sl,k1,k2,k3⟩:=ko hb;obtain ⟨h1,vs,ty,h2,h3⟩:=h.boxes b sl cs k1 k3;obtain ⟨g1,g2,g3⟩:=vals _ _ _ _ _ _ h3 hq;refine ⟨g1,fun l hl => ?_,mB k (.box []) [.box b] us,by rw [qv];rfl,qw _ _ _ _,fun ρ hp hr=>⟨c.bx b,vs,ty,hV.2.2 cs hb,?_,h2,g3 ρ (fun p mj=>hp p (List.mem_append_right _ mj)) hr⟩⟩
      ·rcases List.mem_cons.1 hl with rfl | hl
       ·rfl
       ·exact g2 l hl
      ·exact (Cz.o7 h1).trans (hp (.box b,.yd k) (by simp [mB]))
   |_=>cases he
  |agg _=>cases he
  |rb _=>cases he
 |dX ps=>cases he
theorem Bt {w0:World} {mu:Mu} {c:Cz} {st:St} {a:Act} {w:World} (h:Rel w0 mu c st a w):(l:List (Option AP))→(k:Nat)→{x:aO (aM l)}→{u:List Lb}→{r:List (Nat×Nat)}→rp st k l=some (x,u,r)→
  (∀l∈u,l.real=true)∧∃tb:List (Lb×Lb),tb.map (·.1)=u∧(∀p∈tb,p.2.om=true)∧∀ρ:Lb→Option Lb,(∀p∈tb,ρ p.1=some p.2)→(∀p∈r,ρ (.sp p.1 p.2)=none)→FD (c.map ρ) w c.lc a k (ef l x)
 | [],k,x,u,r,he=>by
  have he:some ((),([]:List Lb),([]:List (Nat×Nat)))=some (x,u,r):=he;injection he with he;injection he with _ e2;injection e2 with e2 e3;subst e2 e3;exact ⟨by simp,[],rfl,by simp,fun ρ _ _ i av hi=>by simp [ef] at hi⟩
 |none::l,k,x,u,r,he=>by
  obtain ⟨g1,tb,g2,g3,g4⟩:=Bt h l (k+1) he;refine ⟨g1,tb,g2,g3,fun ρ hp hr i av hi => ?_⟩
  cases i with
  |zero=>simp [ef] at hi
  |succ i=>
   have:=g4 ρ hp hr i av (by simpa [ef] using hi)
   rwa [show k+1+i=k+(i+1) by omega] at this
 |some p::l,k,x,u,r,he=>by
  unfold rp at he
  cases h1:rp st (k+1) l with
  |none=>simp [h1] at he
  |some q1=>
   obtain ⟨y,us,rs⟩:=q1;simp only [h1] at he
   cases h2:GC st k p (aM l) (dR st k) y with
   |none=>simp [h2] at he
   |some q2=>
    obtain ⟨x1,u1,r1⟩:=q2;simp only [h2] at he;injection he with he;injection he with e1 e2;injection e2 with e2 e3;subst e1 e2 e3;obtain ⟨g1,tb,g2,g3,g4⟩:=Bt h l (k+1) h1;obtain ⟨a1,a2,ta,a3,a4,a5⟩:=Ev h k (h.jy k) h2;refine ⟨fun l' hl => ?_,ta++tb,by simp [a3,g2],fun p hp => ?_,fun ρ hp hr i av hi => ?_⟩
    ·rcases List.mem_append.1 hl with hl | hl
     ·exact a2 l' hl
     ·exact g1 l' hl
    ·rcases List.mem_append.1 hp with hp | hp
     ·exact a4 p hp
     ·exact g3 p hp
    ·cases i with
     |zero=>
      have hi:some (some (p.av (aM l) x1).1)=some (some av):=hi;simp only [Option.some.injEq] at hi;subst hi;exact a5 ρ (fun p mj=>hp p (List.mem_append_left _ mj)) (fun p mj=>hr p (List.mem_append_left _ mj))
     |succ i=>
      have hi:(ef l (p.av (aM l) x1).2)[i]?=some (some av):=hi;rw [a1] at hi;have:=g4 ρ (fun p mj=>hp p (List.mem_append_right _ mj)) (fun p mj=>hr p (List.mem_append_right _ mj)) i av hi
      rwa [show k+1+i=k+(i+1) by omega] at this
end Go.TM
namespace Go.TM
open Go Go.RowKit
def Xf (L:List (Option AV)) (lc:Nat→Nat→Loc) (a:Act):TI→Prop
 |.arr i j g W n l=>g=1∧i<L.length∧∀av,L[i]?=some (some av)→(∃A,av=.io A∧(j=0→A.r.width=W∧A.xs.length=n∧lc i 0=l))∨∃os,av=.dX os∧∀A,os[j]?=some (.own A)→A.r.width=W∧A.xs.length=n∧lc i j=l
 |.box i g sj=>g=1∧i<L.length∧∀os,L[i]?=some (some (.box os))→a.eval (.tmp i)=.pointer (some ⟨sj,0,none⟩)
def Xg:Lb→Lb
 |.dC i j=>.sp i j
 |.yd i=>.box i
 |l=>l
structure Xh (c:Cz) (w:World) (k:Nat) (av:Option AV) (u:Value) (lio:Nat→Loc) (sj:Nat) (lcs:Nat→Loc):Prop where
 arr:∀j A,nth (fp k av).ca j=some (some A)→∃v,OwnAt c w (.dC k j) (lcs j) A v
 reg:∀(c2:Cz) (mq:St),(∀b,c.ok b→c2.ok b)→c2.bx k=sj→c2.lc k=lcs→nth mq k=some (fp k av)→iB c2 mq w (fp k av).v u
 box:∀cs,(fp k av).box=some cs→u=.pointer (some ⟨sj,0,none⟩)∧c.own sj=some (.yd k)∧∃vs ty,w.heap[sj]?=some (.cells vs ty (0,0))∧
  ∀(c2:Cz) (mq:St),(∀b,c.ok b→c2.ok b)→c2.lc k=lcs→nth mq k=some (fp k av)→jf c2 mq w cs vs.toList
 io:∀A,av=some (.io A)→lcs 0=lio 0
 dX:∀os,av=some (.dX os)→lcs=lio
theorem vF {st:St} {k j:Nat} {av:Option AV} {A:nY} (h:nth st k=some (fp k av)) (hA:cT st k j 1=some A):nth (fp k av).ca j=some (some A):=by
 obtain ⟨sl,h1,_,h3⟩:=dF hA;rw [h] at h1;cases h1;exact h3
theorem vG {st:St} {k:Nat} {av:Option AV} (h:nth st k=some (fp k av)):hU st k=1:=by
 unfold hU;rw [h]
 cases av with
 |none=>rfl
 |some av=>cases av with
  |val agg os=>cases agg<;>rfl
  |io A=>rfl
  |box os=>rfl
  |dX os=>rfl
theorem Lm {st:St} {k:Nat} {av:Option AV} (h:nth st k=some (fp k av)):km st k=1:=by
 unfold km;rw [h]
 cases av with
 |none=>rfl
 |some av=>cases av with
  |val agg os=>cases agg<;>rfl
  |io A=>rfl
  |box os=>rfl
  |dX os=>rfl
theorem Ew:(os:List OV)→(j:Nat)→{A:nY}→nth (cD os) j=some (some A)→os[j]?=some (.own A)
 | [],_,_,h=>by simp [cD] at h
 |o::os,0,A,h=>by
  simp only [cD,nth,Option.some.injEq] at h
  cases o with
  |own B=>injection h with h;subst h;rfl
  |_=>cases h
 |o::os,j+1,A,h=>by
  have:=Ew os j (A:=A) h;simpa using this
theorem Ln {d g:Nat}:(os:List OV)→(j k:Nat)→(o:OV)→os[k]?=some o→∃x,ch d g (j+k) [o]=[x]∧(ch d g j os)[k]?=some x
 | [],_,_,_,h=>by simp at h
 |o::os,j,0,o',h=>by
  simp only [List.getElem?_cons_zero,Option.some.injEq] at h;subst h
  cases o<;>exact ⟨_,rfl,rfl⟩
 |o::os,j,k+1,o',h=>by
  obtain ⟨x,h1,h2⟩:=Ln (d:=d) (g:=g) os (j+1) k o' (by simpa using h);rw [show j+1+k=j+(k+1) by omega] at h1;refine ⟨x,h1,?_⟩
  cases o<;>simpa [ch] using h2
theorem Ii {d g:Nat}:(os:List OV)→(j:Nat)→(ch d g j os).length=os.length
 | [],_=>rfl
 |o::os,j=>by cases o<;>simp [ch,Ii os (j+1)]
theorem cN.Xi {c:Cz} {w:World} {f:Nat→Lb} {os:List OV} {vs:List Value} (h:cN c w f 0 os vs) (lcs:Nat→Loc) (ho:∀k A u,os[k]?=some (.own A)→vs[k]?=some u→∃l,OwnAt c w l (lcs k) A u)
  (c2:Cz) (mq:St) (d g:Nat) (je:∀b,c.ok b→c2.ok b) (nZ:∀k,c2.lc d k=lcs k) (Fy:∀k A,cT mq d k g=some A→os[k]?=some (.own A)) (hg:g≤hU mq d):jf c2 mq w (ch d g 0 os) vs:=by
 obtain ⟨h1,h2⟩:=cN.Xe os 0 vs h;refine ⟨by rw [Ii,h1],fun k x v hx hv => ?_⟩;have dB:k<os.length:=by rw [←h1];exact (List.getElem?_eq_some_iff.1 hv).1
 have QG:os[k]?=some os[k]:=List.getElem?_eq_getElem dB;obtain ⟨y,q1,q2⟩:=Ln (d:=d) (g:=g) os 0 k _ QG;rw [q2] at hx
 cases hx
 have hL:=h2 k _ v QG hv;rw [Nat.zero_add] at q1;generalize os[k]=o at *
 cases o with
 |own A=>
  simp only [ch,List.cons.injEq,and_true] at q1;subst q1;obtain ⟨l,hO⟩:=ho k A v QG hv;refine ⟨hO.1,hg,fun A' iS => ?_⟩;have:=Fy k A' iS;rw [QG] at this
  cases this
  rw [nZ];exact hO.2.1
 |shr r xs=>
  simp only [ch,List.cons.injEq,and_true] at q1;subst q1;obtain ⟨v',l,e,h3,_⟩:=hL
  cases e
  exact eD.stays ⟨Nat.le_refl _,fun _ _ _=>rfl,fun b _ hb=>je b hb⟩ _ _ _ h3
 |oe r xs=>
  simp only [ch,List.cons.injEq,and_true] at q1;subst q1;obtain ⟨v',l,e,⟨b,oo,e1,e2,e3,e4⟩,_⟩:=hL
  cases e
  exact ⟨b,oo,e1,e2,je b e3,fun x hx=>fP.stays ⟨Nat.le_refl _,fun _ _ _=>rfl,fun b _ hb=>je b hb⟩ _ _ _ _ rfl (e4 x hx)⟩
 |fn fg r xs=>
  simp only [ch,List.cons.injEq,and_true] at q1;subst q1;obtain ⟨v',l,e,h3,_⟩:=hL
  cases e
  exact h3.stays ⟨Nat.le_refl _,fun _ _ _=>rfl,fun b _ hb=>je b hb⟩
 |_=>
  simp only [ch,List.cons.injEq,and_true] at q1;subst q1;obtain ⟨l,e,_⟩:=hL
  cases e
  rfl
theorem aay {c:Cz} {w:World} {k:Nat} {lio:Nat→Loc} {av:Option AV} {u:Value} (h:∀v,av=some v→xp c w k lio v u):∃sj lcs,Xh c w k av u lio sj lcs:=by
 cases av with
 |none=>exact ⟨0,fun _=>.nil,fun j A hA=>by simp [fp,Sl.blank] at hA,fun c2 mq _ _ _ _=>trivial,fun cs yL=>by simp [fp,Sl.blank] at yL,fun A hA=>(by cases hA),fun A hA=>(by cases hA)⟩
 |some av=>
  have h:=h av rfl
  cases av with
  |val agg os=>
   cases agg with
   |true=>
    obtain ⟨vs,rfl,hl⟩:=h;obtain ⟨lcs,g1,g2⟩:=cN.cells os 0 _ hl;simp only [Nat.zero_add] at g1 g2;refine ⟨0,lcs,fun j A hA=>g1 j A hA,fun c2 mq je _ nZ hn=>⟨vs,rfl,?_⟩,fun cs yL=>by simp [fp] at yL,fun A hA=>(by cases hA),fun A hA=>(by cases hA)⟩;exact g2 c2 mq k 1 je (fun j _=>by rw [nZ]) (fun j A _ hA=>vF hn hA) (by rw [vG hn];exact Nat.le_refl _)
   |false=>
    have hl:cN c w (.dC k) 0 os [u]:=h;obtain ⟨lcs,g1,g2⟩:=cN.cells os 0 _ hl;simp only [Nat.zero_add] at g1 g2;refine ⟨0,lcs,fun j A hA=>g1 j A hA,fun c2 mq je _ nZ hn => ?_,fun cs yL=>by simp [fp] at yL,fun A hA=>(by cases hA),fun A hA=>(by cases hA)⟩;have hR:=g2 c2 mq k 1 je (fun j _=>by rw [nZ]) (fun j A _ hA=>vF hn hA) (by rw [vG hn];exact Nat.le_refl _);show iB c2 mq w (match ch k 1 0 os with | [c]=>.one c | _=>.one .bad) u;have h1:=hR.1
    cases hc:ch k 1 0 os with
    |nil=>trivial
    |cons x l=>cases l with
     |nil=>rw [hc] at hR;exact hR.2 0 x u rfl rfl
     |cons _ _=>trivial
  |io A=>
   have hO:OwnAt c w (.dC k 0) (lio 0) A u:=h;refine ⟨0,lio,fun j A' iS => ?_,fun c2 mq je _ nZ hn => ?_,fun cs yL=>by simp [fp] at yL,fun A hA=>rfl,fun A hA=>by cases hA⟩
   ·cases j with
    |zero=>simp [fp,nth] at iS;subst iS;exact ⟨u,hO⟩
    |succ j=>simp [fp,nth] at iS
   ·refine ⟨hO.1,by rw [vG hn];exact Nat.le_refl _,fun A' iS => ?_⟩;have:=vF hn iS;simp [fp,nth] at this;subst this;rw [nZ];exact hO.2.1
  |dX os=>
   obtain ⟨vs,rfl,hl,adh⟩:=h;have kM:∀j A u,os[j]?=some (.own A)→vs.toList[j]?=some u→OwnAt c w (.dC k j) (lio j) A u:=fun j A u h1 h2=>adh j _ u h1 h2
   obtain ⟨n1,_⟩:=cN.Xe os 0 _ hl;refine ⟨0,lio,fun j A' iS => ?_,fun c2 mq je _ nZ hn=>⟨vs,rfl,?_⟩,fun cs yL=>by simp [fp] at yL,fun A hA=>(by cases hA),fun Fp _=>rfl⟩
   ·have hj:=Ew os j iS;have dB:j<vs.toList.length:=by rw [n1];exact (List.getElem?_eq_some_iff.1 hj).1
    exact ⟨_,kM j A' _ hj (List.getElem?_eq_getElem dB)⟩
   ·exact cN.Xi hl lio (fun j A u h1 h2=>⟨_,kM j A u h1 h2⟩) c2 mq k 1 je (fun j=>by rw [nZ]) (fun j A hA=>Ew os j (vF hn hA)) (by rw [vG hn];exact Nat.le_refl _)
  |box os=>
   obtain ⟨sj,vs,ty,h1,h2,h3,hl⟩:=h;obtain ⟨lcs,g1,g2⟩:=cN.cells os 0 _ hl;simp only [Nat.zero_add] at g1 g2;refine ⟨sj,lcs,fun j A hA=>g1 j A hA,fun c2 mq je HQ nZ hn=>⟨by rw [h1];rfl,by rw [Lm hn];exact Nat.le_refl _,fun cs _=>by rw [HQ];exact h1⟩,fun cs yL=>⟨h1,h2,vs,ty,h3,fun c2 mq je nZ hn => ?_⟩,fun A hA=>(by cases hA),fun A hA=>(by cases hA)⟩;simp only [fp,Option.some.injEq] at yL;subst yL;exact g2 c2 mq k 1 je (fun j _=>by rw [nZ]) (fun j A _ hA=>vF hn hA) (by rw [vG hn];exact Nat.le_refl _)
theorem Rel.SE {w0:World} {mu:Mu} {c:Cz} {a:Act} {w:World} {L:List (Option AV)} {lc:Nat→Nat→Loc} (hb:Fx w0 mu c w) (hd:a.defers=[]) (hL:FD c w lc a 0 L) (hA:∀p∈mu.an,Xf L lc a p):∃c',Rel w0 mu c' (sk 0 L) a w:=by
 have hsl:∀k,∃q:Nat×(Nat→Loc),Xh c w k ((L[k]?).getD none) (a.eval (.tmp k)) (lc k) q.1 q.2:=by
  intro k;obtain ⟨sj,lcs,h⟩:=aay (c:=c) (w:=w) (k:=k) (lio:=lc k) (av:=(L[k]?).getD none) (u:=a.eval (.tmp k)) (fun v hv=>by
   have:=hL k v (by
    cases hq:L[k]? with
    |none=>rw [hq] at hv;cases hv
    |some o=>rw [hq] at hv;simp at hv;rw [hv])
   simpa using this)
  exact ⟨(sj,lcs),h⟩
 obtain ⟨q,hq⟩:=Classical.axiomOfChoice hsl;have hn:∀k,nth (sk 0 L) k=(L[k]?).map (fp k):=fun k=>by have:=Lk L 0 k;simpa using this
 have Wm:∀k sl,nth (sk 0 L) k=some sl→∃o,L[k]?=some o∧sl=fp k o∧nth (sk 0 L) k=some (fp k ((L[k]?).getD none))∧(L[k]?).getD none=o:=by
  intro k sl h;rw [hn] at h
  cases ho:L[k]? with
  |none=>rw [ho] at h;cases h
  |some o=>
   rw [ho] at h
   cases h
   refine ⟨o,rfl,rfl,?_,rfl⟩;rw [hn,ho];rfl
 let c':=c.iD Xg (fun k=>(q k).1) (fun k=>(q k).2)
 have je:∀b,c.ok b→c'.ok b:=fun b hb=>Cz.td.2 hb
 refine ⟨c',fun t => ?_,fun s sl cs hs HQ => ?_,fun s j sl A hs iS => ?_,fun b l hl => ?_,fun b dB hl=>hb.free b dB (by simpa [c',Cz.iD] using hl),hb.kept,hb.old,hd,fun p hp => ?_⟩
 ·cases hs:nth (sk 0 L) t with
  |none=>
   have:dR (sk 0 L) t=.one .bad:=by unfold dR;rw [hs]
   rw [this];trivial
  |some sl=>
   obtain ⟨o,h1,rfl,h3,h4⟩:=Wm t sl hs;have:dR (sk 0 L) t=(fp t ((L[t]?).getD none)).v:=by unfold dR;rw [h3]
   rw [this];exact (hq t).reg c' (sk 0 L) je rfl rfl h3
 ·obtain ⟨o,h1,rfl,h3,h4⟩:=Wm s sl hs;rw [←h4] at HQ;obtain ⟨g1,g2,vs,ty,g3,g4⟩:=(hq s).box cs HQ;refine ⟨?_,vs,ty,g3,g4 c' (sk 0 L) je rfl h3⟩;show (c.own (q s).1).map Xg=_;rw [g2];rfl
 ·obtain ⟨o,h1,rfl,h3,h4⟩:=Wm s sl hs;rw [←h4] at iS;obtain ⟨v,hv⟩:=(hq s).arr j A iS;exact hv.arr rfl rfl
 ·simp only [c',Cz.iD,Option.map_eq_some_iff] at hl;obtain ⟨k,hk,e⟩:=hl;obtain ⟨h1,h2⟩:=hb.owned b k hk;refine ⟨h1,h2.imp (fun e2 => ?_) id⟩;subst e2;rw [←e];rfl
 ·have hf:=hA p hp
  cases p with
  |arr i j g W n l=>
   obtain ⟨rfl,hi,Ow⟩:=hf;have hs:nth (sk 0 L) i=some (fp i ((L[i]?).getD none)):=by rw [hn];simp [List.getElem?_eq_getElem hi]
   refine ⟨by rw [vG hs];exact Nat.le_refl _,fun A iS => ?_⟩;have h3:=vF hs iS
   cases ho:L[i]? with
   |none=>rw [ho] at h3;simp [fp,Sl.blank] at h3
   |some o=>cases o with
    |none=>rw [ho] at h3;simp [fp,Sl.blank] at h3
    |some av=>
     rcases Ow av ho with ⟨A0,rfl,h5⟩ | ⟨os,rfl,h5⟩
     case inr=>
      rw [ho] at h3;obtain ⟨e1,e2,e3⟩:=h5 A (Ew os j h3);refine ⟨e1,e2,?_⟩;rw [←e3];have:=(hq i).dX os (by rw [ho];rfl);show (q i).2 j=lc i j;rw [this]
     rw [ho] at h3
     cases j with
     |zero=>
      simp [fp,nth] at h3;subst h3;obtain ⟨e1,e2,e3⟩:=h5 rfl;exact ⟨e1,e2,((hq i).io A0 (by rw [ho];rfl)).trans e3⟩
     |succ j=>simp [fp,nth] at h3
  |box i g sj=>
   obtain ⟨rfl,hi,Ow⟩:=hf;have hs:nth (sk 0 L) i=some (fp i ((L[i]?).getD none)):=by rw [hn];simp [List.getElem?_eq_getElem hi]
   refine ⟨by rw [Lm hs];exact Nat.le_refl _,fun cs yL => ?_⟩;obtain ⟨sl,k1,k2,k3⟩:=ko yL;rw [hs] at k1;cases k1;obtain ⟨g1,_⟩:=(hq i).box cs k3;have ye:∃os,L[i]?=some (some (.box os)):=by
    cases ho:L[i]? with
    |none=>rw [ho] at k3;simp [fp,Sl.blank] at k3
    |some o=>cases o with
     |none=>rw [ho] at k3;simp [fp,Sl.blank] at k3
     |some av=>cases av with
      |val agg os=>rw [ho] at k3;cases agg<;>simp [fp] at k3
      |io A=>rw [ho] at k3;simp [fp] at k3
      |dX os=>rw [ho] at k3;simp [fp] at k3
      |box os=>exact ⟨os,rfl⟩
   obtain ⟨os,ye⟩:=ye;have:=Ow os ye;rw [this] at g1;injection g1 with g1;injection g1 with g1;injection g1 with g1;exact g1.symm
end Go.TM
