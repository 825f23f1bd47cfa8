/- A machine over trees: an evaluator of the code, and that what it finds is so; part 3. -/
import Derived.Test.YtlgnmloddedbaaaGreatTm2
import Derived.Laws.Sem
import Derived.Deep.LoopGhost
import Derived.OrdersHeld
import Derived.KernelRfl
set_option linter.unusedSimpArgs false
set_option linter.unusedVariables false
namespace Go.TM
open Go Go.RowKit
theorem D3 {st : St} {own : Bool} : (cs : List CV) → {os : List OV} → {u : List (Option Lb)} → {r : List (Nat × Nat)} → eI st own cs = some (os, u, r) → ∀ l ∈ bI u, l ∈ cs.filterMap fun x => match x with | .ref a j _ _ => some (Lb.sp a j) | _ => none
 | [], _, _, _, h => by
   simp only [eI, Option.some.injEq, Prod.mk.injEq] at h; obtain ⟨_, rfl, _⟩ := h; simp [bI]
 | x :: cs, os, u, r, h => by
   unfold eI at h
   cases hc : fq st own x with
   | none => simp [hc] at h
   | some p =>
     obtain ⟨o, u1, r1⟩ := p
     cases hq : eI st own cs with
     | none => simp [hc, hq] at h
     | some q =>
       obtain ⟨yc, us, rs⟩ := q; simp only [hc, hq, Option.some.injEq, Prod.mk.injEq] at h; obtain ⟨_, rfl, _⟩ := h; intro l hl; rw [gd] at hl; rcases List.mem_cons.1 hl with hl | hl
       · refine List.mem_filterMap.2 ⟨x, List.mem_cons_self, ?_⟩
         cases x with
         | ref a j g w =>
           unfold fq at hc; simp only at hc
           cases hA : aQ st a j g with
           | none => simp [hA] at hc
           | some A =>
             simp only [hA] at hc
             cases hm : A.md.DN with
             | true => simp [hm] at hc
             | false =>
             simp only [hm, cond_false] at hc
             cases hb : (own && A.own && (A.md.is .sh || w.isFull)) <;> simp only [hb, cond_true, cond_false, Option.some.injEq, Prod.mk.injEq] at hc <;> obtain ⟨_, rfl, _⟩ := hc
             · cases hl
             · exact hl.symm
         | nQ a j g e i k q ys =>
           unfold fq at hc; simp only at hc
           cases hA : aQ st a j g with
           | none => simp [hA] at hc
           | some A =>
             simp only [hA] at hc; obtain ⟨_, hc⟩ := aH hc; simp only [Option.some.injEq, Prod.mk.injEq] at hc; obtain ⟨_, rfl, _⟩ := hc
             cases hl
         | kC q y off => obtain ⟨_, rfl, _⟩ := uH hc; cases hl
         | re q y off => obtain ⟨_, rfl, _⟩ := rK hc; cases hl
         | _ =>
           simp only [fq, Option.some.injEq, Prod.mk.injEq, reduceCtorEq] at hc
           all_goals (obtain ⟨_, rfl, _⟩ := hc; cases hl)
       · have := D3 cs hq l (gd.2 hl); obtain ⟨y, h1, h2⟩ := List.mem_filterMap.1 this; exact List.mem_filterMap.2 ⟨y, List.mem_cons_of_mem _ h1, h2⟩
theorem Iu {st : St} {m : Pm} {v : V} {av : AV} {u q : List Lb} {r : List (Nat × Nat)} (h : dY st m v = some (av, u, q, r)) : ∀ l ∈ u, (l ∈ q ∧ ∃ s j, l = .sp s j) ∨ l ∈ zv m v := by
 have single : ∀ own cs, (match eI st own cs with | some (os, u, r) => some (AV.val false os, bI u, bI u, r) | none => none) = some (av, u, q, r) → ∀ l ∈ u, (l ∈ q ∧ ∃ s j, l = .sp s j) ∨ l ∈ zv m v := by
   intro own cs h
   cases hq : eI st own cs with
   | none => simp [hq] at h
   | some p =>
     obtain ⟨os, us, rs⟩ := p; simp only [hq, Option.some.injEq, Prod.mk.injEq] at h; obtain ⟨_, rfl, rfl, _⟩ := h; exact fun l hl => .inl ⟨hl, vS cs hq l hl⟩
 cases v with
 | lU _ => simp [dY] at h
 | agg cs =>
   have other : (match eI st m.mB cs with | some (os, u, r) => some (AV.val true os, bI u, bI u, r) | none => none) = some (av, u, q, r) → ∀ l ∈ u, (l ∈ q ∧ ∃ s j, l = .sp s j) ∨ l ∈ zv m (.agg cs) := by
     intro h
     cases hq : eI st m.mB cs with
     | none => simp [hq] at h
     | some p =>
       obtain ⟨os, us, rs⟩ := p; simp only [hq, Option.some.injEq, Prod.mk.injEq] at h; obtain ⟨_, rfl, rfl, _⟩ := h; exact fun l hl => .inl ⟨hl, vS cs hq l hl⟩
   unfold dY at h
   cases m with
   | shr => exact other h
   | own => exact other h
   | pick _ => exact other h
   | io => exact other h
   | bD =>
     simp only at h
     cases hq : eI st true cs with
     | none => simp [hq] at h
     | some p =>
       obtain ⟨os, us, rs⟩ := p; simp only [hq] at h; obtain ⟨_, h1⟩ := aH h; simp only [Option.some.injEq, Prod.mk.injEq] at h1; obtain ⟨_, rfl, _, _⟩ := h1; exact fun l hl => .inr (D3 cs hq l hl)
 | one cx =>
   cases cx with
   | ptr b g off =>
     unfold dY at h; simp only at h
     cases hb : dx st b g with
     | none => simp [hb] at h
     | some cs =>
       simp only [hb] at h
       cases hq : eI st true cs with
       | none => simp [hq] at h
       | some p =>
         obtain ⟨os, us, rs⟩ := p; simp only [hq] at h; obtain ⟨_, h1⟩ := aH h; simp only [Option.some.injEq, Prod.mk.injEq] at h1; obtain ⟨_, rfl, rfl, _⟩ := h1; intro l hl; rcases List.mem_cons.1 hl with rfl | hl
         · exact .inr (by simp [zv])
         · exact .inl ⟨hl, vS cs hq l hl⟩
   | ref s j g vw =>
     unfold dY at h
     cases m with
     | shr => exact single _ _ h
     | own => exact single _ _ h
     | pick _ => exact single _ _ h
     | bD => exact single _ _ h
     | io =>
       cases vw with
       | full =>
         cases hA : aQ st s j g with
         | none => simp [hA] at h
         | some A =>
           simp only [hA] at h; obtain ⟨_, h1⟩ := aH h; simp only [Option.some.injEq, Prod.mk.injEq] at h1; obtain ⟨_, rfl, _, _⟩ := h1; exact fun l hl => .inr (by simpa [zv] using hl)
       | «from» _ => simp at h
       | sub _ _ => simp at h
   | _ =>
     unfold dY at h; simp only at h
     split at h
     · rename_i os us rs hq; simp only [Option.some.injEq, Prod.mk.injEq] at h; obtain ⟨_, rfl, rfl, _⟩ := h; exact fun l hl => .inl ⟨hl, vS _ hq l hl⟩
     · cases h
theorem BS {st : St} : (ms : List (Pm × V)) → {dC : List AV} → {u q : List Lb} → {r : List (Nat × Nat)} → gY st ms = some (dC, u, q, r) → ∀ l ∈ u, (l ∈ q ∧ ∃ s j, l = .sp s j) ∨ ∃ m ∈ ms, l ∈ zv m.1 m.2
 | [], _, _, _, _, h => by
   simp only [gY, Option.some.injEq, Prod.mk.injEq] at h; obtain ⟨_, rfl, _⟩ := h; simp
 | (m, v) :: ms, dC, u, q, r, h => by
   unfold gY at h
   cases h1 : dY st m v with
   | none => simp [h1] at h
   | some p1 =>
     obtain ⟨av, u1, q1, r1⟩ := p1
     cases h2 : gY st ms with
     | none => simp [h1, h2] at h
     | some p2 =>
       obtain ⟨PO, u2, q2, r2⟩ := p2; simp only [h1, h2, Option.some.injEq, Prod.mk.injEq] at h; obtain ⟨rfl, rfl, rfl, rfl⟩ := h; intro l hl; rcases List.mem_append.1 hl with hl | hl
       · rcases Iu h1 l hl with ⟨h3, h4⟩ | h3
         · exact .inl ⟨List.mem_append_left _ h3, h4⟩
         · exact .inr ⟨(m, v), List.mem_cons_self, h3⟩
       · rcases BS ms h2 l hl with ⟨h3, h4⟩ | ⟨m', h3, h4⟩
         · exact .inl ⟨List.mem_append_right _ h3, h4⟩
         · exact .inr ⟨m', List.mem_cons_of_mem _ h3, h4⟩
theorem Ag {st : St} : (ms : List (Pm × V)) → {dC : List AV} → {u q : List Lb} → {r : List (Nat × Nat)} → gY st ms = some (dC, u, q, r) → ∀ (k : Nat) (m : Pm × V) (av : AV), ms[k]? = some m → dC[k]? = some av → Np st m av
 | [], _, _, _, _, _ => by intro k m av hm; simp at hm
 | (m, v) :: ms, dC, u, q, r, h => by
   unfold gY at h
   cases h1 : dY st m v with
   | none => simp [h1] at h
   | some p1 =>
     obtain ⟨av, u1, q1, r1⟩ := p1
     cases h2 : gY st ms with
     | none => simp [h1, h2] at h
     | some p2 =>
       obtain ⟨PO, u2, q2, r2⟩ := p2; simp only [h1, h2, Option.some.injEq, Prod.mk.injEq] at h; obtain ⟨rfl, rfl, rfl, rfl⟩ := h; intro k m' Kg hm GC
       cases k with
       | zero => simp at hm GC; subst hm GC; exact ⟨u1, q1, r1, h1⟩
       | succ k => exact Ag ms h2 k m' Kg (by simpa using hm) (by simpa using GC)
theorem Lc (a b c : Pm) (l : List V) : (tR a b c l).map (·.2) = l := by
 rcases l with _ | ⟨x, _ | ⟨y, _ | ⟨z, l⟩⟩⟩ <;> simp [tR, Function.comp_def]
theorem Cz.wL : (m : List (Nat × Nat)) → (c : Cz) → {b : Nat} → {l : Lb} → c.own b = some l → (∀ p ∈ m, l ≠ .sp p.1 p.2) → (c.drop m).own b = some l
 | [], _, _, _, h, _ => h
 | (s, j) :: m, c, b, l, h, hm => Cz.wL m (c.drop1 s j) (Cz.pF h (hm (s, j) List.mem_cons_self)) (fun p hp => hm p (List.mem_cons_of_mem _ hp))
def lu (P : Program) (S : jC) : Prop :=
 ∀ f a b c zU, S f = some (a, b, c, zU) → FnOk P f zU ∧ ∃ fn, P.funcs[f]? = some fn ∧ (fn.name == "runtime.NumGoroutine") = false ∧ fn.body.isNone = false
theorem GD {P : Program} {w0 : World} {mu : Mu} {c : Cz} {st aP : St} {a : Act} {w : World} (h : Rel w0 mu c st a w) {o : Oper} {f : FuncId} {vals : Array Value} (ns : (execOp a.eval o).run P w = .ok (.enter f vals) w)
   {zU : ud} (Ld : FnOk P f zU) {ms : List (Pm × V)}
   (hlen : ms.length = vals.toList.length) (uL : ∀ (k : Nat) (m : Pm × V) (x : Value), ms[k]? = some m → vals.toList[k]? = some x → eo c st w m.2 x)
   {fin : St → N} (hv : (F7 st o.dst zU ms fin).val = some aP) (hd : ∀ k, o.dst = some k → k < a.tmps.size) {kp : Bool} (PN : kp = true → Ia st ms = true)
   (E5 : ∀ (c5 : Cz) (gm : St) (a2 : Act) (w' : World), Rel w0 mu c5 gm a2 w' → Fw c st w c5 gm w' →
     (∀ dC u q r, gY st ms = some (dC, u, q, r) → ∀ b l, l.real = true → l ∉ u → (∀ p ∈ r, l ≠ .sp p.1 p.2) → c.own b = some l → w'.heap[b]? = w.heap[b]? ∧ c5.own b = some l) →
     (fin gm).val = some aP → ∃ c6, Rel w0 mu c6 aP a2 w') : uG P w0 mu aP o a w kp := by
   unfold F7 at hv; unfold Ia at PN
   cases he : gY st ms with
   | none => simp [he, N.val] at hv
   | some p =>
     obtain ⟨dC, u, q, r⟩ := p; simp only [he] at hv PN; obtain ⟨hc, hv⟩ := dD hv; rw [Bool.and_eq_true] at hc
     cases hs : zU dC with
     | none => simp [hs, N.val] at hv
     | some p =>
       simp only [hs] at hv
       cases hox : p.o with
       | none => rw [hox] at hv; cases hv
       | some x =>
       rw [hox] at hv; have Iv := hv; clear hv; unfold N.val at Iv; simp only at Iv; generalize BC : p.res x = res at Iv
       cases VT : ss (m9 (xN (bif res.plain then st else freeze st r)) q) ms res.exts with
       | none => simp [VT, N.val] at Iv
       | some zi =>
         simp only [VT] at Iv
         cases hly : um zi o.dst res.outs with
         | none => simp [hly, N.val] at Iv
         | some gm =>
           simp only [hly] at Iv; have Iv : (fin gm).val = some aP := Iv; obtain ⟨Ah, hqu, tb, Ns, WL, Le, hold⟩ := D1 h ms 0 _ hlen uL he; have Ij := nb u Ah hc.1; have Dd : ∀ p ∈ r, Lb.sp p.1 p.2 ∉ u := by
             intro p hp hm; have h1 := List.all_eq_true.1 hc.2 p hp; have h2 := List.all_eq_true.1 h1 _ hm; rw [(Lb.yd rfl).2 rfl] at h2
             cases h2
           let lc : Nat → Nat → Loc := fun k => match ms[k]? with | some m => Ae c m.2 | none => fun _ => .nil
           have oJ := Classical.propDecidable
           let ρ : Lb → Option Lb := fun l => match look tb l with | some y => some y | none => if (∃ p ∈ r, l = .sp p.1 p.2) then none else some .out
           have yn : ∀ {l y}, look tb l = some y → l ∈ u ∧ y.jD = true := by
             intro l y hl; have := vR tb hl; exact ⟨by rw [← Ns]; exact List.mem_map.2 ⟨_, this, rfl⟩, WL _ this⟩
           have hρr : ∀ p ∈ r, ρ (.sp p.1 p.2) = none := by
             intro p hp; show (match look tb (.sp p.1 p.2) with | some y => some y | none => if (∃ p' ∈ r, Lb.sp p.1 p.2 = .sp p'.1 p'.2) then none else some .out) = none
             cases hl : look tb (.sp p.1 p.2) with
             | some y => exact absurd (yn hl).1 (Dd p hp)
             | none => simp only; rw [if_pos ⟨p, hp, rfl⟩]
           have hρt : ∀ p ∈ tb, ρ p.1 = some p.2 := by
             intro p hp; have := yf tb (by rw [Ns]; exact Ij) hp; show (match look tb p.1 with | some y => some y | none => _) = _; rw [this]
           have hρh : ∀ {l y}, ρ l = some y → y = .out ∨ (y.jD = true ∧ l ∈ u) := by
             intro l y hl; have hl : (match look tb l with | some y => some y | none => if (∃ p ∈ r, l = .sp p.1 p.2) then none else some .out) = some y := hl
             cases hk : look tb l with
             | some z =>
               rw [hk] at hl
               cases hl
               exact .inr ⟨(yn hk).2, (yn hk).1⟩
             | none =>
               rw [hk] at hl; simp only at hl
               split at hl
               · cases hl
               · cases hl; exact .inl rfl
           have hρn : ∀ {l}, ρ l = none → ∃ p ∈ r, l = .sp p.1 p.2 := by
             intro l hl; have hl : (match look tb l with | some y => some y | none => if (∃ p ∈ r, l = .sp p.1 p.2) then none else some .out) = none := hl
             cases hk : look tb l with
             | some z => rw [hk] at hl; cases hl
             | none =>
               rw [hk] at hl; simp only at hl
               split at hl
               · assumption
               · cases hl
           let μ : Mu := { m := fun b => ∃ l, (c.map ρ).own b = some l ∧ l.jD = true, ok := fun b => (c.map ρ).own b = none, an := [] }
           have hH : Handed (c.map ρ) w μ := {
             m := fun b => Iff.rfl
             ok := fun b => Iff.rfl
             lt := fun b l hb => by
               obtain ⟨k, hk, _⟩ := Cz.map_some hb; exact (h.owned b k hk).1
             lb := fun b l hb => by
               obtain ⟨k, hk, e⟩ := Cz.map_some hb; exact (hρh e).imp id (·.1) }
           have hA := hold ρ lc (fun k m hm => by simp only [Nat.zero_add, lc, hm]) hρt hρr; have j1 := Ld (c.map ρ) w μ lc dC vals p x hH hA hs hox; rw [BC] at j1; intro Q; unfold Oper.wp; rw [ns, Oper.upon_enter]; refine j1.mono fun e w' BT => ?_
           obtain ⟨v, rfl, c1, zw, hV, hX⟩ := BT; obtain ⟨c2, s2, Pk, hR2, hF2, VU, aaH, aaI⟩ : ∃ (c2 : Cz) (s2 : St), (bif res.plain then st else freeze st r) = s2 ∧ Rel w0 mu c2 s2 a w ∧ Fw c st w c2 s2 w ∧ (∀ b, μ.m b → ∃ l, c2.own b = some l ∧ l ∈ u) ∧ (res.plain = true ∨ ∀ b, μ.ok b → c2.own b = none) ∧
               (∀ b l, (∀ p ∈ r, l ≠ .sp p.1 p.2) → c.own b = some l → c2.own b = some l) := by
             have hm : ∀ b, μ.m b → ∃ l, c.own b = some l ∧ l ∈ u := by
               rintro b ⟨l, hl, hh⟩
               obtain ⟨k, hk, e⟩ := Cz.map_some hl; rcases hρh e with e2 | e2
               · subst e2; cases hh
               · exact ⟨k, hk, e2.2⟩
             cases hp : res.plain with
             | true => exact ⟨c, st, rfl, h, Fw.refl c st w, hm, .inl rfl, fun _ _ _ h => h⟩
             | false =>
               refine ⟨c.drop r, freeze st r, rfl, Rel.freeze r h, Fw.freeze w r c st, fun b hb => ?_, .inr fun b hb => ?_, fun b l hl hb => Cz.wL r c hb hl⟩
               · obtain ⟨l, h1, h2⟩ := hm b hb; exact ⟨l, Cz.wL r c h1 (fun p hp e => Dd p hp (e ▸ h2)), h2⟩
               · have hb : (c.own b).bind ρ = none := hb
                 cases hk : c.own b with
                 | none => exact Cz.xS r c b hk
                 | some l =>
                   rw [hk] at hb; obtain ⟨p, hp, e⟩ := hρn hb; subst e; exact Cz.A7 r c b hk hp
           rw [Pk] at VT; obtain ⟨g1, g2, gfr, g3, g4⟩ := hR2.WI zw (X := fun l => l ∈ u) VU (fun l hl e => by subst e; cases Ah _ hl); have Iw : (∀ b, c1.ok b → (c2.merge c1 w.heap.size μ.m).ok b) ∨ res.plain = true := by
             rcases aaH with h1 | h1
             · exact .inr h1
             · exact .inl (g4 h1)
           have Nt : res.plain = true → res.outs.all (fun o => o.uk.all OV.plain) = true ∧ res.exts.all XV.plain = true := by
             intro hp; unfold Zz.plain at hp
             rwa [Bool.and_eq_true] at hp
           have hV' : pJ (c2.merge c1 w.heap.size μ.m) w' res.outs v := hV.pass (fun b j => g3 b (.gM j) rfl) (Iw.imp id fun hp => (Nt hp).1); have K7 : gO (c2.merge c1 w.heap.size μ.m) w' lc 0 dC vals.toList res.exts := gO.pass dC 0 (fun b k _ => g3 b (.rE k) rfl) (fun b k j _ => g3 b (.bK k j) rfl) _ _ (Iw.imp id fun hp => (Nt hp).2) hX; obtain ⟨c3, k1, k2, k3⟩ := wK q g1; have WM : ∀ b, (c2.merge c1 w.heap.size μ.m).ok b → c3.ok b := fun b hb => by unfold Cz.ok at *; rw [k3]; exact hb
           have hV3 : pJ c3 w' res.outs v := hV'.pass (fun b j hb => by rw [k3]; exact hb) (.inl WM); have hX3 : gO c3 w' lc 0 dC vals.toList res.exts := gO.pass dC 0 (fun b k _ hb => by rw [k3]; exact hb) (fun b k j _ hb => by rw [k3]; exact hb) _ _ (.inl WM) K7; obtain ⟨c4, l1, l2, l3⟩ := BR ms 0 dC _ _ k1 ((hF2.trans g2).trans k2) uL (Ag ms he) Le.symm hlen (fun k m hm => by simp only [Nat.zero_add, lc, hm]) hX3 VT; have hV4 : pJ c4 w' res.outs v := hV3.pass (fun b j => l3.bK b (.gM j) (.inl ⟨j, rfl⟩)) (.inl l3.ok); obtain ⟨c5, n1, n2, n3⟩ := l1.laid hV4 hly hd; have WN : Rel w0 mu c5 gm (a.put o.dst v) w' := by
             refine (n1.mono (X' := fun _ => False) (fun l hl => ?_)).rel; obtain ⟨⟨Lf, PS⟩, hl3⟩ := hl; rcases BS ms he l Lf with ⟨h1, s, j, e⟩ | ⟨m, h1, h2⟩
             · subst e; exact PS s j h1 rfl
             · exact hl3 m h1 h2
           obtain ⟨c6, hc6⟩ := E5 c5 gm _ w' WN (l2.trans n2) (fun PO u' q' r' RS b l Lf PS hl3 hb => by
             rw [he] at RS; simp only [Option.some.injEq, Prod.mk.injEq] at RS; obtain ⟨rfl, rfl, rfl, rfl⟩ := RS; have F0 := aaI b l hl3 hb; obtain ⟨f1, f2⟩ := gfr b l F0 PS; refine ⟨f1, n3 b l Lf (l3.bK b l (.inr Lf) ?_)⟩; rw [k3, f2]; exact F0) Iv
           refine ⟨⟨c6, hc6, pH _ _ _⟩, fun aaK => ⟨zw.kept.2.2.2, fun k hk => zw.old k hk (fun ZG => ?_)⟩⟩; have hu0 : u = [] := by simpa using PN aaK
           obtain ⟨_, _, AW⟩ := VU k ZG; rw [hu0] at AW
           cases AW
end Go.TM
namespace Go.TM
open Go Go.RowKit
def uM (st : St) (n : Nat × Nat) : Prop := ∃ g A, aQ st n.1 n.2 g = some A ∧ A.md.DN = false
theorem Lg {st : St} {own : Bool} {x : CV} {o : OV} {u : Option Lb} {r : List (Nat × Nat)} (h : fq st own x = some (o, u, r)) : (∀ s j, u = some (.sp s j) → uM st (s, j)) ∧ ∀ p ∈ r, uM st p := by
 cases x with
 | ref a j g w =>
   unfold fq at h; simp only at h
   cases hA : aQ st a j g with
   | none => simp [hA] at h
   | some A =>
     simp only [hA] at h
     cases hm : A.md.DN with
     | true => simp [hm] at h
     | false =>
     have v8 := hm; simp only [hm, cond_false] at h
     cases hb : (own && A.own && (A.md.is .sh || w.isFull)) <;> simp only [hb, cond_true, cond_false, Option.some.injEq, Prod.mk.injEq] at h <;> obtain ⟨_, rfl, rfl⟩ := h
     · exact ⟨by simp, fun p hp => by simp at hp; subst hp; exact ⟨g, A, hA, v8⟩⟩
     · refine ⟨fun s k e => ?_, by simp⟩; simp only [Option.some.injEq, Lb.sp.injEq] at e; obtain ⟨rfl, rfl⟩ := e; exact ⟨g, A, hA, v8⟩
 | nQ a j g e i k q ys =>
   unfold fq at h; simp only at h
   cases hA : aQ st a j g with
   | none => simp [hA] at h
   | some A =>
     simp only [hA] at h; obtain ⟨h1, h⟩ := aH h; rw [Bool.and_eq_true] at h1; have hm := Md.lg.1 h1.1; simp only [Option.some.injEq, Prod.mk.injEq] at h; obtain ⟨_, rfl, rfl⟩ := h; exact ⟨by simp, fun p hp => by simp at hp; subst hp; exact ⟨g, A, hA, by rw [hm]; rfl⟩⟩
 | kC q y off => obtain ⟨_, rfl, rfl⟩ := uH h; simp
 | re q y off => obtain ⟨_, rfl, rfl⟩ := rK h; simp
 | _ => simp [fq] at h <;> (try (obtain ⟨_, rfl, rfl⟩ := h; simp))
theorem rN {st : St} {own : Bool} : (cs : List CV) → {os : List OV} → {u : List (Option Lb)} → {r : List (Nat × Nat)} → eI st own cs = some (os, u, r) → (∀ s j, .sp s j ∈ bI u → uM st (s, j)) ∧ ∀ p ∈ r, uM st p
 | [], _, _, _, h => by
   simp only [eI, Option.some.injEq, Prod.mk.injEq] at h; obtain ⟨_, rfl, rfl⟩ := h; simp [bI]
 | x :: cs, os, u, r, h => by
   unfold eI at h
   cases hc : fq st own x with
   | none => simp [hc] at h
   | some p =>
     obtain ⟨o, u1, r1⟩ := p
     cases hq : eI st own cs with
     | none => simp [hc, hq] at h
     | some q =>
       obtain ⟨yc, us, rs⟩ := q; simp only [hc, hq, Option.some.injEq, Prod.mk.injEq] at h; obtain ⟨_, rfl, rfl⟩ := h; obtain ⟨a1, a2⟩ := Lg hc; obtain ⟨b1, b2⟩ := rN cs hq; refine ⟨fun s j hm => ?_, fun p hp => ?_⟩
       · rw [gd] at hm; rcases List.mem_cons.1 hm with hm | hm
         · exact a1 s j hm.symm
         · exact b1 s j (gd.2 hm)
       · rcases List.mem_append.1 hp with hp | hp
         · exact a2 p hp
         · exact b2 p hp
theorem GF {st : St} {m : Pm} {v : V} {av : AV} {u q : List Lb} {r : List (Nat × Nat)} (h : dY st m v = some (av, u, q, r)) : (∀ s j, .sp s j ∈ u → uM st (s, j)) ∧ ∀ p ∈ r, uM st p := by
 have single : ∀ own cs ag, (match eI st own cs with | some (os, u, r) => some (AV.val ag os, bI u, bI u, r) | none => none) = some (av, u, q, r) → (∀ s j, .sp s j ∈ u → uM st (s, j)) ∧ ∀ p ∈ r, uM st p := by
   intro own cs ag h
   cases hq : eI st own cs with
   | none => simp [hq] at h
   | some p =>
     obtain ⟨os, us, rs⟩ := p; simp only [hq, Option.some.injEq, Prod.mk.injEq] at h; obtain ⟨_, rfl, rfl, rfl⟩ := h; exact rN cs hq
 cases v with
 | lU _ => simp [dY] at h
 | agg cs =>
   unfold dY at h
   cases m with
   | shr => exact single _ _ _ h
   | own => exact single _ _ _ h
   | pick _ => exact single _ _ _ h
   | io => exact single _ _ _ h
   | bD =>
     simp only at h
     cases hq : eI st true cs with
     | none => simp [hq] at h
     | some p =>
       obtain ⟨os, us, rs⟩ := p; simp only [hq] at h; obtain ⟨_, h1⟩ := aH h; simp only [Option.some.injEq, Prod.mk.injEq] at h1; obtain ⟨_, rfl, _, rfl⟩ := h1; exact rN cs hq
 | one cx =>
   cases cx with
   | ptr b g off =>
     unfold dY at h; simp only at h
     cases hb : dx st b g with
     | none => simp [hb] at h
     | some cs =>
       simp only [hb] at h
       cases hq : eI st true cs with
       | none => simp [hq] at h
       | some p =>
         obtain ⟨os, us, rs⟩ := p; simp only [hq] at h; obtain ⟨_, h1⟩ := aH h; simp only [Option.some.injEq, Prod.mk.injEq] at h1; obtain ⟨_, rfl, rfl, rfl⟩ := h1; obtain ⟨a1, a2⟩ := rN cs hq; refine ⟨fun s j hm => ?_, a2⟩; rcases List.mem_cons.1 hm with hm | hm
         · cases hm
         · exact a1 s j hm
   | ref s j g vw =>
     unfold dY at h
     cases m with
     | shr => exact single _ _ _ h
     | own => exact single _ _ _ h
     | pick _ => exact single _ _ _ h
     | bD => exact single _ _ _ h
     | io =>
       cases vw with
       | full =>
         cases hA : aQ st s j g with
         | none => simp [hA] at h
         | some A =>
           simp only [hA] at h; obtain ⟨hb, h1⟩ := aH h; simp only [Option.some.injEq, Prod.mk.injEq] at h1; obtain ⟨_, rfl, _, rfl⟩ := h1; refine ⟨fun s' j' hm => ?_, by simp⟩; simp at hm; obtain ⟨rfl, rfl⟩ := hm; rw [Bool.and_eq_true] at hb; exact ⟨g, A, hA, by cases hh : A.md.DN <;> simp_all⟩
       | «from» _ => simp at h
       | sub _ _ => simp at h
   | _ =>
     unfold dY at h; simp only at h
     split at h
     · rename_i os us rs hq; simp only [Option.some.injEq, Prod.mk.injEq] at h; obtain ⟨_, rfl, _, rfl⟩ := h; exact rN _ hq
     · cases h
theorem Ai {st : St} : (ms : List (Pm × V)) → {dC : List AV} → {u q : List Lb} → {r : List (Nat × Nat)} → gY st ms = some (dC, u, q, r) → (∀ s j, .sp s j ∈ u → uM st (s, j)) ∧ ∀ p ∈ r, uM st p
 | [], _, _, _, _, h => by
   simp only [gY, Option.some.injEq, Prod.mk.injEq] at h; obtain ⟨_, rfl, _, rfl⟩ := h; simp
 | (m, v) :: ms, dC, u, q, r, h => by
   unfold gY at h
   cases h1 : dY st m v with
   | none => simp [h1] at h
   | some p1 =>
     obtain ⟨av, u1, q1, r1⟩ := p1
     cases h2 : gY st ms with
     | none => simp [h1, h2] at h
     | some p2 =>
       obtain ⟨PO, u2, q2, r2⟩ := p2; simp only [h1, h2, Option.some.injEq, Prod.mk.injEq] at h; obtain ⟨_, rfl, _, rfl⟩ := h; obtain ⟨a1, a2⟩ := GF h1; obtain ⟨b1, b2⟩ := Ai ms h2; refine ⟨fun s j hm => ?_, fun p hp => ?_⟩
       · rcases List.mem_append.1 hm with hm | hm
         · exact a1 s j hm
         · exact b1 s j hm
       · rcases List.mem_append.1 hp with hp | hp
         · exact a2 p hp
         · exact b2 p hp
theorem A8 : {l : List Nat} → EO l = true → ∀ {a b : Nat} {x y : Nat}, l[a]? = some x → l[b]? = some y → a < b → x < y
 | [], _, a, b, x, y, h, _, _ => by simp at h
 | [z], _, a, b, x, y, h1, h2, hab => by
   have : b = 0 := by
     have := (List.getElem?_eq_some_iff.1 h2).1; simpa using this
   omega
 | z :: z' :: l, h, a, b, x, y, h1, h2, hab => by
   simp only [EO, Bool.and_eq_true] at h; have hz : z < z' := by have := h.1; simp [Nat.blt] at this; omega
   cases b with
   | zero => omega
   | succ b =>
     cases a with
     | succ a => exact A8 h.2 (by simpa using h1) (by simpa using h2) (by omega)
     | zero =>
       simp at h1; subst h1
       cases b with
       | zero => simp at h2; omega
       | succ b =>
         have := A8 (a := 0) (b := b + 1) h.2 rfl (by simpa using h2) (by omega); omega
theorem Nu {l : List Nat} (h : EO l = true) {a b x : Nat} (h1 : l[a]? = some x) (h2 : l[b]? = some x) : a = b := by
 rcases Nat.lt_trichotomy a b with h3 | h3 | h3
 · have := A8 h h1 h2 h3; omega
 · exact h3
 · have := A8 h h2 h1 h3; omega
theorem BU {k : Nat} : (n : Nat) → (l : List Dr) → (∃ y ∈ l, y.k = k) → ∃ i y, posOf k n l = n + i ∧ l[i]? = some y ∧ y.k = k
 | n, [], h => by obtain ⟨y, hy, _⟩ := h; cases hy
 | n, x :: l, h => by
   unfold posOf
   cases hb : Nat.beq x.k k with
   | true => exact ⟨0, x, rfl, rfl, Nat.eq_of_beq_eq_true hb⟩
   | false =>
     have fE : x.k ≠ k := by intro e; rw [e, Nat.beq_refl] at hb; cases hb
     obtain ⟨y, hy, e⟩ := h; rcases List.mem_cons.1 hy with rfl | hy
     · exact absurd e fE
     · obtain ⟨i, y', h1, h2, h3⟩ := BU (n + 1) l ⟨y, hy, e⟩; exact ⟨i + 1, y', by rw [cond_false, h1]; omega, by simpa using h2, h3⟩
theorem GG {l : List Dr} (hi : EO (l.map (·.k)) = true) {i : Nat} {y : Dr} (h : l[i]? = some y) : posOf y.k 0 l = i := by
 obtain ⟨i', y', h1, h2, h3⟩ := BU (k := y.k) 0 l ⟨y, List.mem_of_getElem? h, rfl⟩; rw [h1, Nat.zero_add]; exact Nu hi (x := y.k) (by rw [List.getElem?_map, h2]; simp [h3]) (by rw [List.getElem?_map, h]; rfl)
def Dr.cv (y : Dr) : CV := .nQ y.a y.j y.g y.e y.i y.k y.q y.ys
theorem sG {y : Dr} : {cs : List CV} → y ∈ wC cs → y.cv ∈ cs
 | [], h => by simp [wC] at h
 | c :: cs, h => by
   cases c with
   | nQ a j g e i k q ys =>
     rcases List.mem_cons.1 h with rfl | h
     · exact List.mem_cons_self
     · exact List.mem_cons_of_mem _ (sG h)
   | _ => exact List.mem_cons_of_mem _ (sG h)
theorem BV {a j g e i k : Nat} {q : RT} {ys : List (aq q)} : {cs : List CV} → CV.nQ a j g e i k q ys ∈ cs → (⟨a, j, g, e, i, k, q, ys⟩ : Dr) ∈ wC cs
 | [], h => by cases h
 | c :: cs, h => by
   rcases List.mem_cons.1 h with rfl | h
   · exact List.mem_cons_self
   · have := BV (cs := cs) h
     cases c with
     | nQ _ _ _ _ _ _ _ _ => exact List.mem_cons_of_mem _ this
     | _ => exact this
theorem BW {y : Dr} : {ms : List (Pm × V)} → y ∈ pC ms → ∃ m ∈ ms, (m = (.io, .one y.cv)) ∨ ∃ cs, m = (.bD, .agg cs) ∧ y.cv ∈ cs
 | [], h => by simp [pC] at h
 | (p, v) :: ms, h => by
   have rest : y ∈ pC ms → ∃ m ∈ (p, v) :: ms, (m = (.io, .one y.cv)) ∨ ∃ cs, m = (.bD, .agg cs) ∧ y.cv ∈ cs := fun h => by
     obtain ⟨m, hm, e⟩ := BW h; exact ⟨m, List.mem_cons_of_mem _ hm, e⟩
   cases p with
   | io => cases v with
     | one c =>
       rcases List.mem_append.1 h with h | h
       · have := sG h; simp at this; exact ⟨_, List.mem_cons_self, .inl (by rw [this])⟩
       · exact rest h
     | _ => exact rest h
   | bD => cases v with
     | agg cs =>
       rcases List.mem_append.1 h with h | h
       · exact ⟨_, List.mem_cons_self, .inr ⟨cs, rfl, sG h⟩⟩
       · exact rest h
     | _ => exact rest h
   | _ => exact rest (by cases v <;> exact h)
theorem D4 {a j g e i k : Nat} {q : RT} {ys : List (aq q)} : {ms : List (Pm × V)} → (.io, .one (.nQ a j g e i k q ys)) ∈ ms → (⟨a, j, g, e, i, k, q, ys⟩ : Dr) ∈ pC ms
 | [], h => by cases h
 | (p, v) :: ms, h => by
   rcases List.mem_cons.1 h with h | h
   · cases h
     exact List.mem_append_left _ List.mem_cons_self
   · have := D4 (ms := ms) h
     cases p <;> cases v <;> first | exact this | exact List.mem_append_right _ this
theorem Aj {a j g e i k : Nat} {q : RT} {ys : List (aq q)} {cs : List CV} (hc : CV.nQ a j g e i k q ys ∈ cs) : {ms : List (Pm × V)} → (.bD, .agg cs) ∈ ms → (⟨a, j, g, e, i, k, q, ys⟩ : Dr) ∈ pC ms
 | [], h => by cases h
 | (p, v) :: ms, h => by
   rcases List.mem_cons.1 h with h | h
   · cases h
     exact List.mem_append_left _ (BV hc)
   · have := Aj hc (ms := ms) h
     cases p <;> cases v <;> first | exact this | exact List.mem_append_right _ this
theorem yo {st : St} {ms : List (Pm × V)} {x : Dr} {A : gr} {l : List Dr} (h : kU st ms = some (x, A, l)) :
   l = pC ms ∧ aQ st x.a x.j x.g = some A ∧ A.own = true ∧ A.md = .dp ∧ lh st x.a = x.e ∧ (∀ y ∈ l, y.a = x.a ∧ y.j = x.j ∧ y.g = x.g ∧ y.e = x.e ∧ y.i = x.i) ∧ EO (l.map (·.k)) = true ∧ x.a ≠ st.length - 1 := by
 unfold kU at h
 cases hd : pC ms with
 | nil => rw [hd] at h; cases h
 | cons y l' =>
   rw [hd] at h; simp only at h
   cases hA : aQ st y.a y.j y.g with
   | none => rw [hA] at h; cases h
   | some B =>
     rw [hA] at h; simp only at h; obtain ⟨h1, h⟩ := aH h; simp only [Option.some.injEq, Prod.mk.injEq] at h; obtain ⟨rfl, rfl, rfl⟩ := h; simp only [Bool.and_eq_true] at h1; obtain ⟨⟨⟨⟨⟨h1, h2⟩, h3⟩, h4⟩, h5⟩, h6⟩ := h1; refine ⟨rfl, hA, h1, Md.lg.1 h2, (Nat.eq_of_beq_eq_true h3).symm, fun z hz => ?_, h5, fun e => ?_⟩
     · rcases List.mem_cons.1 hz with rfl | hz
       · exact ⟨rfl, rfl, rfl, rfl, rfl⟩
       · have := List.all_eq_true.1 h4 z hz; simp only [Bool.and_eq_true] at this; obtain ⟨⟨⟨⟨q1, q2⟩, q3⟩, q4⟩, q5⟩ := this; exact ⟨Nat.eq_of_beq_eq_true q1, Nat.eq_of_beq_eq_true q2, Nat.eq_of_beq_eq_true q3, Nat.eq_of_beq_eq_true q4, Nat.eq_of_beq_eq_true q5⟩
     · rw [← e, Nat.beq_refl] at h6
       cases h6
theorem GH : (r : RT) → (x : aq r) → (k : Nat) → {p : (q : RT) × List (aq q)} → oI r x k = some p → k < r.width
 | .nil, _, _, _, h => by simp [oI] at h
 | .cons t r, x, 0, _, _ => by simp [RT.width]
 | .cons t r, x, k + 1, p, h => by
   have h' : oI r x.2 k = some p := by cases t <;> exact h
   have := GH r x.2 k h'; simp [RT.width]; omega
noncomputable def Cz.split (c : Cz) (a j i P : Nat) (gg : Nat → List Nat) (l : List Dr) (MG : Nat → Loc) : Cz :=
 { bx := c.bx, lc := fun s k => if s = P then MG k else c.lc s k,
   own := fun k => have := Classical.propDecidable (c.own k = some (.sp a j) ∧ ∃ y q, y ∈ l ∧ gg k = i :: y.k :: q); if c.own k = some (.sp a j) ∧ ∃ y q, y ∈ l ∧ gg k = i :: y.k :: q then some (.sp P (posOf ((gg k).getD 1 0) 0 l)) else c.own k }
theorem Cz.mO {c : Cz} {a j i P : Nat} {gg : Nat → List Nat} {l : List Dr} {MG : Nat → Loc} {k : Nat} (h : ¬ (c.own k = some (.sp a j) ∧ ∃ y q, y ∈ l ∧ gg k = i :: y.k :: q)) : (c.split a j i P gg l MG).own k = c.own k := by
 unfold Cz.split; simp only; rw [if_neg h]
theorem Cz.GI {c : Cz} {a j i P : Nat} {gg : Nat → List Nat} {l : List Dr} {MG : Nat → Loc} (hi : EO (l.map (·.k)) = true) {k n : Nat} {y : Dr} {q : List Nat} (h : c.own k = some (.sp a j)) (hy : l[n]? = some y) (hg : gg k = i :: y.k :: q) : (c.split a j i P gg l MG).own k = some (.sp P n) := by
 unfold Cz.split; simp only; rw [if_pos ⟨h, y, q, List.mem_of_getElem? hy, hg⟩, hg]; have : (i :: y.k :: q).getD 1 0 = y.k := rfl; rw [this, GG hi hy]
theorem Cz.uN {c : Cz} {a j i P : Nat} {gg : Nat → List Nat} {l : List Dr} {MG : Nat → Loc} {k : Nat} : (c.split a j i P gg l MG).ok k ↔ c.ok k := by
 unfold Cz.ok
 by_cases h : c.own k = some (.sp a j) ∧ ∃ y q, y ∈ l ∧ gg k = i :: y.k :: q
 · have h0 := h.1; unfold Cz.split; simp only; rw [if_pos h, h0]; simp
 · rw [Cz.mO h]
theorem Cz.Ix {c : Cz} {a j i P : Nat} {gg : Nat → List Nat} {l : List Dr} {MG : Nat → Loc} {k : Nat} {lb : Lb} (h : (c.split a j i P gg l MG).own k = some lb) : c.own k = some lb ∨ (c.own k = some (.sp a j) ∧ ∃ n, lb = .sp P n) := by
 by_cases h1 : c.own k = some (.sp a j) ∧ ∃ y q, y ∈ l ∧ gg k = i :: y.k :: q
 · unfold Cz.split at h; simp only at h; rw [if_pos h1] at h; exact .inr ⟨h1.1, _, (Option.some.inj h).symm⟩
 · rw [Cz.mO h1] at h; exact .inl h
theorem uO {st : St} {x : Dr} {A : gr} {l : List Dr} (fE : x.a ≠ st.length - 1) (s : Nat) : nth (ek st x A l) s = if s = st.length - 1 then (nth st s).map (fun z => { z with aJ := l.map (fun y => some y.arr), ag := z.ag + 1, ep := z.ep + 1 }) else
   (if s = x.a then (nth st s).map (fun z => { z with aJ := lN (fun _ => some { A with md := .ho x.i }) z.aJ x.j, ep := z.ep + 1 }) else nth st s) := by
 unfold ek bo; rw [dz, dz]
 by_cases e : s = st.length - 1
 · rw [if_pos e, if_pos e, if_neg (show ¬ (s = x.a) from fun e' => fE (e'.symm.trans e))]
 · rw [if_neg e, if_neg e]
end Go.TM
namespace Go.TM
open Go Go.RowKit
structure Q6 (c c1 : Cz) (st : St) (w : World) (x : Dr) (A : gr) (l : List Dr) (gg : Nat → List Nat) (b o cap : Nat) : Prop where
 lc : c.lc x.a x.j = .at b o cap
 lc1 : c1.lc x.a x.j = .at b o cap
 own : c.own b = some (.sp x.a x.j)
 g0 : gg b = []
 rows : ∀ (i : Nat) z, A.xs[i]? = some z → fM w (fun p k => c.own k = some (.sp x.a x.j) ∧ gg k = p) A.r [i] 0 b (o + i * A.r.width) z
 stay : ∀ k, c.own k = some (.sp x.a x.j) → (∀ y ∈ l, ∀ q, gg k ≠ x.i :: y.k :: q) → c1.own k = some (.sp x.a x.j)
 out : ∀ n y, l[n]? = some y → ∃ v, w.cell? ⟨b, o + x.i * A.r.width + y.k, none⟩ = some v ∧ v.oneCell' = true ∧ iB (c1.lc (st.length - 1) n) y.q.width 0 y.ys.length v ∧ y.k < A.r.width
 len : x.i < A.xs.length
theorem uN {w0 : World} {mu : Mu} {c : Cz} {st : St} {a : Act} {w : World} (h : Rel w0 mu c st a w) {ms : List (Pm × V)} {x : Dr} {A : gr} {l : List Dr} (hs : kU st ms = some (x, A, l)) (uL : ∀ m ∈ ms, ∃ v, eo c st w m.2 v) :
   ∃ (c1 : Cz) (gg : Nat → List Nat) (b o cap : Nat), Rel w0 mu c1 (ek st x A l) a w ∧ Fw c st w c1 (ek st x A l) w ∧ Q6 c c1 st w x A l gg b o cap ∧
     ∀ m ∈ ms, ∀ v, eo c st w m.2 v → eo c1 (ek st x A l) w (Px (st.length - 1) (mA st (st.length - 1) + 1) l m).2 v := by
 obtain ⟨hl, hA, eY, v8, hep, pK, Lh, fE⟩ := yo hs; have pN : ∀ y ∈ l, ∃ v, iT c st w y.cv v := by
   intro y hy; rw [hl] at hy; obtain ⟨m, hm, e | ⟨cs, e, hc⟩⟩ := BW hy
   · obtain ⟨v, hv⟩ := uL m hm; rw [e] at hv; exact ⟨v, hv⟩
   · obtain ⟨v, hv⟩ := uL m hm; rw [e] at hv; obtain ⟨vs, rfl, hL⟩ := hv; obtain ⟨k, hk⟩ := List.mem_iff_getElem?.1 hc; have bX : k < vs.toList.length := by rw [← hL.1]; exact (List.getElem?_eq_some_iff.1 hk).1
     exact ⟨_, hL.2 k _ _ hk (List.getElem?_eq_getElem bX)⟩
 have WO : ∀ y ∈ l, ∀ v, iT c st w y.cv v → ∃ (gg : Nat → List Nat) (b o cap : Nat), c.lc x.a x.j = .at b o cap ∧ A.md = .dp ∧ gg b = [] ∧ w.cell? ⟨b, o + x.i * A.r.width + y.k, none⟩ = some v ∧
     (∀ (i : Nat) z, A.xs[i]? = some z → fM w (fun p k => c.own k = some (.sp x.a x.j) ∧ gg k = p) A.r [i] 0 b (o + i * A.r.width) z) ∧ (∃ z, A.xs[x.i]? = some z ∧ oI A.r z y.k = some ⟨y.q, y.ys⟩) := by
   intro y hy v hv; obtain ⟨e1, e2, e3, e4, e5⟩ := pK y hy; obtain ⟨ya, yj, yg, ye, yi, yk, yq, yys⟩ := y; simp only at e1 e2 e3 e4 e5; subst e1 e2 e3 e4 e5; obtain ⟨gg, b, o, cap, h1, h2, h3, h4, h5, h6, _⟩ := Gt hv hA hep (h.rH hA); exact ⟨gg, b, o, cap, h1, h2, h3, h4, h5, h6⟩
 have eb := h.rH hA; obtain ⟨y0, WQ⟩ : ∃ y, y ∈ l := by
   cases PS : l with
   | cons y _ => exact ⟨y, List.mem_cons_self⟩
   | nil =>
     rw [PS] at hl; unfold kU at hs; rw [← hl] at hs
     cases hs
 obtain ⟨v0, hv0⟩ := pN y0 WQ; obtain ⟨gg, b, o, cap, gz, _, J3, _, tT, Iy⟩ := WO y0 WQ v0 hv0; have Nv : ∀ y ∈ l, ∀ v, iT c st w y.cv v → w.cell? ⟨b, o + x.i * A.r.width + y.k, none⟩ = some v ∧ (∃ z, A.xs[x.i]? = some z ∧ oI A.r z y.k = some ⟨y.q, y.ys⟩) := by
   intro y hy v hv; obtain ⟨_, b', o', Ic, h1, _, _, h4, _, h6⟩ := WO y hy v hv; rw [gz] at h1; injection h1 with e1 e2 e3; subst e1 e2 e3; exact ⟨h4, h6⟩
 have Nw : ∀ n : Nat, ∃ lc : Loc, ∀ y, l[n]? = some y → ∃ v, w.cell? ⟨b, o + x.i * A.r.width + y.k, none⟩ = some v ∧ v.oneCell' = true ∧ iB lc y.q.width 0 y.ys.length v ∧
     ((lc = .nil ∧ y.ys = []) ∨ ∃ b' off Ic, lc = .at b' off Ic ∧ (c.own b' = some (.sp x.a x.j) ∧ gg b' = [x.i, y.k]) ∧ y.ys.length ≤ Ic ∧ (∃ cur ty, w.heap[b']? = some (.cells cur ty (0, 0)) ∧ off + Ic * y.q.width ≤ cur.size) ∧
       ∀ (i : Nat) z, y.ys[i]? = some z → fM w (fun p k => c.own k = some (.sp x.a x.j) ∧ gg k = p) y.q ([x.i, y.k] ++ [i]) 0 b' (off + i * y.q.width) z) := by
   intro n
   cases hn : l[n]? with
   | none => exact ⟨.nil, fun y hy => by cases hy⟩
   | some y =>
     have hy := List.mem_of_getElem? hn; obtain ⟨v, hv⟩ := pN y hy; obtain ⟨h4, z, Nx, Li⟩ := Nv y hy v hv; obtain ⟨v', q1, q2⟩ := zp A.r [x.i] 0 _ z y.k (tT x.i z Nx) Li; rw [h4] at q1
     cases q1
     obtain ⟨lc, r1, r2, r3⟩ := (uu _ _ _ _ _ _).1 q2; refine ⟨lc, fun y' Po => ?_⟩
     cases Po
     exact ⟨v, h4, r2, r1, by simpa using r3⟩
 obtain ⟨MG, Sn⟩ := Classical.axiomOfChoice Nw; have hb : c.own b = some (.sp x.a x.j) := by
   unfold bM at eb; rw [gz] at eb; have := eb.1
   rwa [eY] at this
 let P := st.length - 1
 let c1 := c.split x.a x.j x.i P gg l MG
 have yp := uO (A := A) (l := l) fE; obtain ⟨sla, Q7, ha2, WR⟩ := bc hA; have Sp : P < st.length := by
   have := ER Q7; show st.length - 1 < st.length; omega
 obtain ⟨slP, hP⟩ : ∃ s, nth st P = some s := ⟨st[P], by rw [fK]; exact List.getElem?_eq_getElem Sp⟩; have hgP : mA st P = slP.ag := by unfold mA; rw [hP]
 have D5 : ∀ s k, s ≠ P → c1.lc s k = c.lc s k := fun s k e => by show (if s = P then _ else _) = _; rw [if_neg e]
 have Ny : ∀ k, c1.lc P k = MG k := fun k => by show (if P = P then _ else _) = _; rw [if_pos rfl]
 have zt : ∀ s, cW st s ≤ cW (ek st x A l) s ∧ fL st s = fL (ek st x A l) s ∧ lh st s ≤ lh (ek st x A l) s ∧ (s = P ∨ s = x.a → nth st s ≠ none → lh (ek st x A l) s ≠ lh st s) := by
   intro s; unfold cW fL lh; rw [yp]
   by_cases e : s = st.length - 1
   · rw [if_pos e]
     cases nth st s with
     | none => simp
     | some z => refine ⟨by simp, rfl, by simp, fun _ _ => by simp⟩
   · rw [if_neg e]
     by_cases e2 : s = x.a
     · rw [if_pos e2]
       cases nth st s with
       | none => simp
       | some z => refine ⟨by simp, rfl, by simp, fun _ _ => by simp⟩
     · rw [if_neg e2]; exact ⟨Nat.le_refl _, rfl, Nat.le_refl _, fun h => absurd h (by rintro (h | h); exact e h; exact e2 h)⟩
 have WS : cW (ek st x A l) P = slP.ag + 1 := by
   unfold cW; rw [yp, if_pos rfl, hP]; rfl
 have ga : Fw c st w c1 (ek st x A l) w := {
   stays := ⟨Nat.le_refl _, fun _ _ _ => rfl, fun _ _ h => Cz.uN.2 h⟩
   refs := fun a' j' g' A2 hg Iq => by
     obtain ⟨sl, k1, k2, k3⟩ := bc Iq; rw [yp] at k1
     by_cases e : a' = st.length - 1
     · rw [if_pos e] at k1; obtain ⟨z, hz, rfl⟩ := Option.map_eq_some_iff.1 k1; unfold cW at hg; rw [hz] at hg; simp only at k2 hg; omega
     · rw [if_neg e] at k1
       by_cases e2 : a' = x.a
       · rw [if_pos e2] at k1; obtain ⟨z, hz, rfl⟩ := Option.map_eq_some_iff.1 k1; have WT := (zt a').2.2.2 (.inr e2) (by rw [hz]; simp); simp only at k2 k3; rw [dz] at k3
         by_cases e3 : j' = x.j
         · rw [if_pos e3] at k3; subst e2 e3; rw [Q7] at hz
           cases hz
           rw [WR] at k3; simp only [Option.map_some, Option.some.injEq] at k3; subst k3; exact ⟨A, nc Q7 k2 WR, rfl, rfl, D5 _ _ e, fun he => absurd he WT⟩
         · rw [if_neg e3] at k3; exact ⟨A2, nc hz k2 k3, rfl, rfl, D5 _ _ e, fun he => absurd he WT⟩
       · rw [if_neg e2] at k1; exact ⟨A2, nc k1 k2 k3, rfl, rfl, D5 _ _ e, fun _ => ⟨rfl, fun _ _ _ _ => rfl⟩⟩
   AR := fun b' g' lV _ lk => by
     refine ⟨⟨lV, ?_⟩, rfl⟩; unfold dx at lk ⊢; rw [yp] at lk
     by_cases e : b' = st.length - 1
     · rw [if_pos e] at lk
       cases hz : nth st b' with
       | none => rw [hz] at lk; cases lk
       | some z => rw [hz] at lk; exact lk
     · rw [if_neg e] at lk
       by_cases e2 : b' = x.a
       · rw [if_pos e2] at lk
         cases hz : nth st b' with
         | none => rw [hz] at lk; cases lk
         | some z => rw [hz] at lk; exact lk
       · rw [if_neg e2] at lk; exact lk
   gA := fun s => (zt s).1
   gB := fun s => Nat.le_of_eq (zt s).2.1
   gE := fun s => (zt s).2.2.1 }
 have WU : ∀ t, bW (ek st x A l) t = bW st t := by
   intro t; unfold bW; rw [yp]
   by_cases e : t = st.length - 1
   · rw [if_pos e]; cases nth st t <;> rfl
   · rw [if_neg e]
     by_cases e2 : t = x.a
     · rw [if_pos e2]; cases nth st t <;> rfl
     · rw [if_neg e2]
 have other : ∀ s k B, bM c w s k B → ¬ (s = x.a ∧ k = x.j) → s ≠ P → bM c1 w s k B := by
   intro s k B hB hn hsP; refine hB.go ga.stays (D5 s k hsP) (fun kb hk => ⟨rfl, Cz.mO ?_⟩)
   rintro ⟨h1, _⟩
   rw [hk] at h1; injection h1 with h1; injection h1 with e1 e2; exact hn ⟨e1, e2⟩
 have aaN : Rel w0 mu c1 (ek st x A l) a w := {
   eL := fun t => by rw [WU]; exact ga.lO (h.eL t)
   boxes := fun s sl cs hs lk => by
     have : ∃ Q3, nth st s = some Q3 ∧ Q3.box = some cs := by
       rw [yp] at hs
       by_cases e : s = st.length - 1
       · rw [if_pos e] at hs; obtain ⟨z, hz, rfl⟩ := Option.map_eq_some_iff.1 hs; exact ⟨z, hz, lk⟩
       · rw [if_neg e] at hs
         by_cases e2 : s = x.a
         · rw [if_pos e2] at hs; obtain ⟨z, hz, rfl⟩ := Option.map_eq_some_iff.1 hs; exact ⟨z, hz, lk⟩
         · rw [if_neg e2] at hs; exact ⟨sl, hs, lk⟩
     obtain ⟨Q3, gW, RU⟩ := this; have AT := h.boxes s Q3 cs gW RU; refine AT.go ga rfl (Cz.mO ?_) rfl
     rintro ⟨h1, _⟩
     rw [AT.1] at h1
     cases h1
   aJ := fun s k sl B hs hB => by
     rw [yp] at hs
     by_cases e : s = st.length - 1
     · rw [if_pos e] at hs; obtain ⟨z, hz, rfl⟩ := Option.map_eq_some_iff.1 hs; simp only at hB; rw [fK, List.getElem?_map] at hB
       cases hy : l[k]? with
       | none => rw [hy] at hB; cases hB
       | some y =>
         rw [hy] at hB; simp only [Option.map_some, Option.some.injEq] at hB; subst hB; obtain ⟨v, r1, r2, r3, r4⟩ := Sn k y hy; have es : s = P := e; rw [es]; unfold bM; rw [Ny]; rcases r4 with ⟨e4, e5⟩ | ⟨b', off, Ic, e4, ⟨q1, q2⟩, q3, q4, q5⟩
         · rw [e4]; exact e5
         · rw [e4]; refine ⟨Cz.GI Lh q1 hy (q := []) q2, q3, q4, ?_⟩; unfold bn; show match (bif y.q.dX then Md.dp else Md.sh) with | .sh => _ | .dp => _ | .ho _ => _
           cases Nz : y.q.dX with
           | false => exact fun i z hz => fM.Gc _ _ _ _ _ z Nz (q5 i z hz)
           | true =>
             refine ⟨fun k => (gg k).drop 2, by show List.drop 2 (gg b') = []; rw [q2]; rfl, fun i z hz => fM.go _ _ [i] (fun q kb hk => ⟨rfl, Cz.GI Lh hk.1 hy (q := [i] ++ q) (by rw [hk.2]; simp), by show List.drop 2 (gg kb) = _; rw [hk.2]; simp⟩) _ _ _ z rfl (q5 i z hz)⟩
     · rw [if_neg e] at hs
       by_cases e2 : s = x.a
       · rw [if_pos e2] at hs; obtain ⟨z, hz, rfl⟩ := Option.map_eq_some_iff.1 hs; simp only at hB; rw [dz] at hB
         by_cases e3 : k = x.j
         · rw [if_pos e3] at hB; subst e2 e3; rw [Q7] at hz
           cases hz
           rw [WR] at hB; simp only [Option.map_some, Option.some.injEq] at hB; subst hB; unfold bM at eb ⊢; rw [D5 _ _ e, gz]; rw [gz] at eb; obtain ⟨h0, h2, h3, _⟩ := eb; refine ⟨?_, h2, h3, fun _ => ⟨gg, J3, fun i' z hq hz => fM.go _ [i'] [i'] (fun q kb hk => ⟨rfl, (Cz.mO (by
             rintro ⟨_, y, q', _, hg⟩
             rw [hk.2] at hg; injection hg with e' _; exact hq e')).trans hk.1, hk.2⟩) _ _ _ z rfl (tT i' z hz)⟩⟩
           show match A.own with | true => _ | false => _
           rw [eY]; show c1.own b = _; rw [Cz.mO]
           · exact hb
           · rintro ⟨_, y, q, _, hq⟩
             rw [J3] at hq
             cases hq
         · rw [if_neg e3] at hB; exact other s k B (h.aJ s k z B hz hB) (fun hh => e3 hh.2) e
       · rw [if_neg e2] at hs; exact other s k B (h.aJ s k sl B hs hB) (fun hh => e2 hh.1) e
   owned := fun kb lb hk => by
     rcases Cz.Ix hk with h1 | ⟨h1, n, rfl⟩
     · exact h.owned kb lb h1
     · obtain ⟨g1, g2⟩ := h.owned kb _ h1; exact ⟨g1, .inr (g2.resolve_left (by simp))⟩
   free := fun kb bX hk => h.free kb bX (Cz.uN.1 hk)
   kept := h.kept
   old := h.old
   plain := h.plain
   dR := fun p hp => ga.dR (h.dR p hp) }
 refine ⟨c1, gg, b, o, cap, aaN, ga, ⟨gz, by rw [D5 _ _ fE]; exact gz, hb, J3, tT, fun k hk hq => ?_, fun n y hn => ?_, ?_⟩, ?_⟩
 · show c1.own k = _; rw [Cz.mO]
   · exact hk
   · rintro ⟨_, y, q, hy, hq'⟩
     exact hq y hy q hq'
 · obtain ⟨v, r1, r2, r3, _⟩ := Sn n y hn; refine ⟨v, r1, r2, by rw [Ny]; exact r3, ?_⟩; obtain ⟨v', my⟩ := pN y (List.mem_of_getElem? hn); obtain ⟨_, z, _, Li⟩ := Nv y (List.mem_of_getElem? hn) v' my; exact GH _ _ _ Li
 · obtain ⟨z, Nx, _⟩ := Iy; exact (List.getElem?_eq_some_iff.1 Nx).1
 · -- H3 values ML VL jD
   have cell : ∀ cv v, iT c st w cv v → (∀ a j g e i k q ys, cv = .nQ a j g e i k q ys → (⟨a, j, g, e, i, k, q, ys⟩ : Dr) ∈ l) → iT c1 (ek st x A l) w (RR (st.length - 1) (mA st (st.length - 1) + 1) l cv) v := by
     intro cv v hv hm
     cases cv with
     | nQ a j g e i k q ys =>
       have hy := hm _ _ _ _ _ _ _ _ rfl; obtain ⟨n, hn⟩ := List.mem_iff_getElem?.1 hy; have NA : posOf k 0 l = n := GG Lh hn; show iT c1 (ek st x A l) w (.ref P (posOf k 0 l) (mA st P + 1) .full) v; rw [NA]; obtain ⟨v', r1, r2, r3, _⟩ := Sn n _ hn; have hvv := (Nv _ hy v hv).1; rw [r1] at hvv
       cases hvv
       refine ⟨r2, by rw [WS, hgP]; exact Nat.le_refl _, fun B hB => ?_⟩; obtain ⟨sl, k1, k2, k3⟩ := bc hB; rw [yp, if_pos rfl] at k1; obtain ⟨z, hz, rfl⟩ := Option.map_eq_some_iff.1 k1; simp only at k3; rw [fK, List.getElem?_map, hn] at k3; simp only [Option.map_some, Option.some.injEq] at k3; subst k3; rw [Ny]; exact r3
     | _ => exact ga.MX hv
   intro m hm v hv; obtain ⟨pm, mv⟩ := m
   cases pm with
   | io => cases mv with
     | one cv =>
       exact cell cv v hv (fun a j g e i k q ys e1 => by rw [hl]; subst e1; exact D4 hm)
     | _ => exact ga.lO hv
   | bD => cases mv with
     | agg cs =>
       obtain ⟨vs, rfl, hL⟩ := hv; refine ⟨vs, rfl, by rw [List.length_map]; exact hL.1, fun i y u hy hu => ?_⟩; rw [List.getElem?_map] at hy; obtain ⟨y0, WQ, rfl⟩ := Option.map_eq_some_iff.1 hy; exact cell y0 u (hL.2 i y0 u WQ hu) (fun a j g e i k q ys e1 => by rw [hl]; subst e1; exact Aj (List.mem_of_getElem? WQ) hm)
     | _ => exact ga.lO hv
   | _ => cases mv <;> exact ga.lO hv
end Go.TM
namespace Go.TM
open Go Go.RowKit
theorem Rel.clear {w0 : World} {mu : Mu} {c : Cz} {st : St} {a : Act} {w : World} (h : Rel w0 mu c st a w) (P : Nat) : Rel w0 mu c (lN (fun s => { s with aJ := [], ep := s.ep + 1 }) st P) a w ∧ Fw c st w c (lN (fun s => { s with aJ := [], ep := s.ep + 1 }) st P) w := by
 have hn : ∀ s, nth (lN (fun s => { s with aJ := [], ep := s.ep + 1 }) st P) s = if s = P then (nth st s).map (fun z => { z with aJ := [], ep := z.ep + 1 }) else nth st s := fun s => dz _ _ _ _
 generalize lN (fun s => { s with aJ := [], ep := s.ep + 1 }) st P = aP at hn ⊢; have ga : Fw c st w c aP w := {
   stays := ir.refl w _
   refs := fun a' j' g' A' _ eb => by
     obtain ⟨sl, k1, k2, k3⟩ := bc eb; rw [hn] at k1
     by_cases e : a' = P
     · rw [if_pos e] at k1; obtain ⟨z, hz, rfl⟩ := Option.map_eq_some_iff.1 k1; simp [nth] at k3
     · rw [if_neg e] at k1; exact ⟨A', nc k1 k2 k3, rfl, rfl, rfl, fun _ => ⟨rfl, fun _ _ _ _ => rfl⟩⟩
   AR := fun b' g' lV _ lk => by
     refine ⟨⟨lV, ?_⟩, rfl⟩; unfold dx at lk ⊢; rw [hn] at lk
     by_cases e : b' = P
     · rw [if_pos e] at lk
       cases hz : nth st b' with
       | none => rw [hz] at lk; cases lk
       | some z => rw [hz] at lk; exact lk
     · rw [if_neg e] at lk; exact lk
   gA := fun s => by
     unfold cW; rw [hn]
     by_cases e : s = P
     · rw [if_pos e]; cases nth st s <;> simp
     · rw [if_neg e]; exact Nat.le_refl _
   gB := fun s => by
     unfold fL; rw [hn]
     by_cases e : s = P
     · rw [if_pos e]; cases nth st s <;> simp
     · rw [if_neg e]; exact Nat.le_refl _
   gE := fun s => by
     unfold lh; rw [hn]
     by_cases e : s = P
     · rw [if_pos e]; cases nth st s <;> simp
     · rw [if_neg e]; exact Nat.le_refl _ }
 refine ⟨{
   eL := fun t => by
     have : bW aP t = bW st t := by
       unfold bW; rw [hn]
       by_cases e : t = P
       · rw [if_pos e]; cases nth st t <;> rfl
       · rw [if_neg e]
     rw [this]; exact ga.lO (h.eL t)
   boxes := fun s sl cs hs hb => by
     rw [hn] at hs
     by_cases e : s = P
     · rw [if_pos e] at hs; obtain ⟨z, hz, rfl⟩ := Option.map_eq_some_iff.1 hs; exact (h.boxes s z cs hz hb).go ga rfl rfl rfl
     · rw [if_neg e] at hs; exact (h.boxes s sl cs hs hb).go ga rfl rfl rfl
   aJ := fun s j sl A hs hA => by
     rw [hn] at hs
     by_cases e : s = P
     · rw [if_pos e] at hs; obtain ⟨z, hz, rfl⟩ := Option.map_eq_some_iff.1 hs; simp [nth] at hA
     · rw [if_neg e] at hs; exact h.aJ s j sl A hs hA
   owned := h.owned
   free := h.free
   kept := h.kept
   old := h.old
   plain := h.plain
   dR := fun p hp => ga.dR (h.dR p hp) }, ga⟩
theorem Rel.swap {w0 : World} {mu : Mu} {c : Cz} {st : St} {a : Act} {w : World} (h : Rel w0 mu c st a w) {s j g : Nat} {H B : gr} (hH : aQ st s j g = some H) (hw : B.r.width = H.r.width) (hn : B.xs.length = H.xs.length) (hB : bM c w s j B) :
   Rel w0 mu (c.dZ id c.bx c.lc) (bo st s j (some B)) a w := by
 have ga : Fw c st w (c.dZ id c.bx c.lc) (bo st s j (some B)) w := zr (.inl hH) (fun _ e => by cases e; exact ⟨hw, hn⟩) id; have hX : jQ (fun _ => False) w0 mu c st a w := ⟨h.eL, fun s sl cs _ => h.boxes s sl cs, fun s j sl A _ => h.aJ s j sl A, h.owned, h.free, h.kept, h.old, h.plain, h.dR⟩; refine (hX.dZ pL ga (fun t => by rw [uJ]; exact ga.lO (h.eL t)) (fun k sl cs _ hs hb => ?_) (fun k i sl A _ hs hA => ?_)).rel
 · obtain ⟨f, hf, hk⟩ := gn st s j (some B) k; rw [hk] at hs
   cases hx : nth st k with
   | none => rw [hx] at hs; simp at hs
   | some x =>
     rw [hx] at hs; simp at hs; subst hs; rw [(hf x).2.1] at hb; exact (h.boxes k x cs hx hb).dZ pL ga rfl
 · obtain ⟨f, hf, hk⟩ := gn st s j (some B) k; rw [hk] at hs
   cases hx : nth st k with
   | none => rw [hx] at hs; simp at hs
   | some x =>
     rw [hx] at hs; simp at hs; subst hs; rw [(hf x).2.2.2.2.1 i] at hA
     by_cases e : k = s ∧ i = j
     · rw [if_pos e] at hA; obtain ⟨rfl, rfl⟩ := e
       cases hq : nth x.aJ i with
       | none => simp [hq] at hA
       | some A1 =>
         simp only [hq, Option.map_some, Option.some.injEq] at hA; subst hA; exact hB.dZ pL rfl
     · rw [if_neg e] at hA; exact (h.aJ k i x A hx hA).dZ pL rfl
def hJ (w : World) (P : List Nat → Nat → Prop) (K : Nat → Prop) : (r : RT) → (p : List Nat) → (k : Nat) → List Value → aq r → Prop
 | .nil, _, _, vs, _ => vs = []
 | .cons t r, p, k, vs, x => ∃ v l, vs = v :: l ∧ (¬ K k → dt w P t (p ++ [k]) v x.1) ∧ hJ w P K r p (k + 1) l x.2
theorem hJ.of {w w' : World} {P P' : List Nat → Nat → Prop} {K : Nat → Prop} : (r : RT) → (p : List Nat) → (hP : ∀ k q b, ¬ K k → P (p ++ [k] ++ q) b → w'.heap[b]? = w.heap[b]? ∧ P' (p ++ [k] ++ q) b) → (k : Nat) → (vs : List Value) → (x : aq r) → du w P r p k vs x → hJ w' P' K r p k vs x
 | .nil, _, _, _, _, _, h => h
 | .cons t r, p, hP, k, vs, x, h => by
   obtain ⟨v, l, e, h1, h2⟩ := h; exact ⟨v, l, e, fun hk => dt.go t (p ++ [k]) (p ++ [k]) (fun q b hb => hP k q b hk hb) v x.1 h1, hJ.of r p hP (k + 1) l x.2 h2⟩
theorem hJ.full {w : World} {P : List Nat → Nat → Prop} {K : Nat → Prop} (hK : ∀ k, ¬ K k) : (r : RT) → (p : List Nat) → (k : Nat) → (vs : List Value) → (x : aq r) → hJ w P K r p k vs x → du w P r p k vs x
 | .nil, _, _, _, _, h => h
 | .cons t r, p, k, vs, x, h => by
   obtain ⟨v, l, e, h1, h2⟩ := h; exact ⟨v, l, e, h1 (hK k), hJ.full hK r p (k + 1) l x.2 h2⟩
theorem hJ.mono {w : World} {P : List Nat → Nat → Prop} {K K' : Nat → Prop} : (r : RT) → (p : List Nat) → (k : Nat) → (hK : ∀ c, k ≤ c → K c → K' c) → (vs : List Value) → (x : aq r) → hJ w P K r p k vs x → hJ w P K' r p k vs x
 | .nil, _, _, _, _, _, h => h
 | .cons t r, p, k, hK, vs, x, h => by
   obtain ⟨v, l, e, h1, h2⟩ := h; exact ⟨v, l, e, fun hk => h1 fun h => hk (hK k (Nat.le_refl _) h), hJ.mono r p (k + 1) (fun c hc => hK c (by omega)) l x.2 h2⟩
theorem hJ.set {w : World} {P : List Nat → Nat → Prop} {q : RT} {ys : List (aq q)} {v : Value} : {K : Nat → Prop} → (r : RT) → (p : List Nat) → (k0 : Nat) → (vs : List Value) → (x : aq r) → (col : Nat) → {z : aq r} → hJ w P K r p k0 vs x → lW r x col q ys = some z → vs[col]? = some v → dt w P (.sl q) (p ++ [k0 + col]) v ys →
   hJ w P (fun c => K c ∧ c ≠ k0 + col) r p k0 vs z
 | _, .nil, _, _, _, _, _, _, _, h, _, _ => by simp [lW] at h
 | K, .cons t r, p, k0, vs, x, 0, z, hx, h, hv, hd => by
   obtain ⟨v', l, rfl, h1, h2⟩ := hx
   cases t with
   | sl q' =>
     have h : (bA q' ys).map (fun zs => ((zs, x.2) : aq (.cons (.sl q') r))) = some z := h; obtain ⟨zs, Sq, hz⟩ := Option.map_eq_some_iff.1 h; obtain ⟨e, rfl⟩ := a6 Sq; subst e; subst hz; simp only [List.getElem?_cons_zero, Option.some.injEq] at hv; subst hv; exact ⟨v', l, rfl, fun _ => hd, hJ.mono r p (k0 + 1) (fun c hc hK => ⟨hK, by omega⟩) l x.2 h2⟩
   | int _ => simp [lW] at h
   | bool => simp [lW] at h
   | str => simp [lW] at h
 | K, .cons t r, p, k0, vs, x, col + 1, z, hx, h, hv, hd => by
   obtain ⟨v', l, rfl, h1, h2⟩ := hx; have h' : (lW r x.2 col q ys).map (fun z => ((x.1, z) : aq (.cons t r))) = some z := by cases t <;> exact h
   obtain ⟨z', hz', hz⟩ := Option.map_eq_some_iff.1 h'; subst hz; have := hJ.set r p (k0 + 1) l x.2 col h2 hz' (by simpa using hv) (by rw [show k0 + 1 + col = k0 + (col + 1) by omega]; exact hd); refine ⟨v', l, rfl, fun hk => h1 fun h => hk ⟨h, by omega⟩, ?_⟩
   rwa [show k0 + 1 + col = k0 + (col + 1) by omega] at this
theorem Iz {w : World} {P : List Nat → Nat → Prop} {p : List Nat} {v : Value} {r s : RT} {xs : List (aq r)} {ys : List (aq s)} (h : bA s xs = some ys) (hd : dt w P (.sl r) p v xs) : dt w P (.sl s) p v ys := by
 obtain ⟨e, rfl⟩ := a6 h; subst e; exact hd
theorem BX {st : St} {P g : Nat} {r : RT} {w : World} {PP : List Nat → Nat → Prop} {p : List Nat} {vs : List Value} : (n : Nat) → (l : List Dr) → (z : aq r) → {z' : aq r} → su st P g r n l z = some z' →
   (∀ m y, l[m]? = some y → ∀ B, aQ st P (n + m) g = some B → B.own = true → B.md = y.q.md → B.r = y.q → ∃ v, vs[y.k]? = some v ∧ dt w PP (.sl B.r) (p ++ [y.k]) v B.xs) →
   hJ w PP (fun c => ∃ y ∈ l, y.k = c) r p 0 vs z → du w PP r p 0 vs z'
 | n, [], z, z', h, _, hx => by
   simp only [su, Option.some.injEq] at h; subst h; exact hJ.full (by simp) _ _ _ _ _ hx
 | n, y :: l, z, z', h, hy, hx => by
   unfold su at h
   cases hB : aQ st P n g with
   | none => rw [hB] at h; cases h
   | some B =>
     rw [hB] at h; obtain ⟨h1, h2⟩ := aH h; clear h; rw [Bool.and_eq_true] at h1
     cases hc : bA y.q B.xs with
     | none => rw [hc] at h2; cases h2
     | some ys =>
       rw [hc] at h2; simp only at h2
       cases hr : lW r z y.k y.q ys with
       | none => rw [hr] at h2; cases h2
       | some z1 =>
         rw [hr] at h2; simp only at h2; obtain ⟨e, he⟩ := a6 hc; obtain ⟨v, hv, hd⟩ := hy 0 y rfl B hB h1.1 (Md.lg.1 h1.2) e; have IA : dt w PP (.sl y.q) (p ++ [0 + y.k]) v ys := by
           rw [Nat.zero_add]; exact Iz hc hd
         refine BX (n + 1) l z1 h2 (fun m y' hm B' Df => hy (m + 1) y' (by simpa using hm) B' (by rw [show n + (m + 1) = n + 1 + m by omega]; exact Df)) ?_; have := hJ.set _ _ _ _ _ _ hx hr hv IA; refine hJ.mono _ _ _ (fun c _ hc => ?_) _ _ this; obtain ⟨⟨y', Po, e'⟩, fE⟩ := hc; rcases List.mem_cons.1 Po with rfl | Po
         · exact absurd e'.symm (by omega)
         · exact ⟨y', Po, e'⟩
theorem NB {w0 : World} {mu : Mu} {c c1 c5 : Cz} {st gm aP : St} {a2 : Act} {w w' : World} {x : Dr} {A : gr} {l : List Dr} {gg : Nat → List Nat} {b o cap : Nat} (fE : x.a ≠ st.length - 1) (Ii : aQ st x.a x.j x.g = some A) (eY : A.own = true) (v8 : A.md = .dp)
   (hA : bM c w x.a x.j A) (Lh : EO (l.map (·.k)) = true) (Dd : Q6 c c1 st w x A l gg b o cap) (h5 : Rel w0 mu c5 gm a2 w') (ga : Fw c1 (ek st x A l) w c5 gm w')
   (MF : ∀ k, c1.own k = some (.sp x.a x.j) → w'.heap[k]? = w.heap[k]? ∧ c5.own k = some (.sp x.a x.j))
   (hv : (H9 (st.length - 1) (mA st (st.length - 1) + 1) x A l gm).val = some aP) : ∃ c6, Rel w0 mu c6 aP a2 w' := by
 unfold H9 at hv
 cases hH : aQ gm x.a x.j x.g with
 | none => rw [hH] at hv; cases hv
 | some H =>
   rw [hH] at hv; simp only at hv; obtain ⟨_, hv⟩ := dD hv
   cases hz : A.xs[x.i]? with
   | none => rw [hz] at hv; cases hv
   | some z =>
     rw [hz] at hv; have hv : (match su gm (st.length - 1) (mA st (st.length - 1) + 1) A.r 0 l z with
       | some z' => N.done (bo (lN (fun s => { s with aJ := [], ep := s.ep + 1 }) gm (st.length - 1)) x.a x.j (some (A.put (A.xs.set x.i z'))))
       | none => .fail).val = some aP := hv
     cases hj : su gm (st.length - 1) (mA st (st.length - 1) + 1) A.r 0 l z with
     | none => rw [hj] at hv; cases hv
     | some z' =>
       rw [hj] at hv; simp only [N.val, Option.some.injEq] at hv; subst hv; obtain ⟨P, hP⟩ : ∃ P, P = st.length - 1 := ⟨_, rfl⟩; rw [← hP] at fE hj ⊢; have Nb := fE; rw [hP] at Nb; have yp := uO (A := A) (l := l) Nb; rw [← hP] at yp; obtain ⟨sla, Q7, ha2, WR⟩ := bc Ii; have Z8 : x.g ≤ cW (ek st x A l) x.a := by
         unfold cW; rw [yp, if_neg fE, if_pos rfl, Q7]; show x.g ≤ sla.ag; omega
       have hfa : ∀ B0, aQ (ek st x A l) x.a x.j x.g = some B0 → B0.r.width = A.r.width ∧ B0.xs.length = A.xs.length := by
         intro B0 hB0; obtain ⟨sl, k1, k2, k3⟩ := bc hB0; rw [yp, if_neg fE, if_pos rfl, Q7] at k1; simp only [Option.map_some, Option.some.injEq] at k1; subst k1; simp only at k3; rw [dz, if_pos rfl, WR] at k3; simp only [Option.map_some, Option.some.injEq] at k3; subst k3; exact ⟨rfl, rfl⟩
       obtain ⟨B0, q1, q2, q3, q4, _⟩ := ga.refs x.a x.j x.g H Z8 hH; obtain ⟨e1, e2⟩ := hfa B0 q1; have aaP : c5.lc x.a x.j = .at b o cap := q4.trans Dd.lc1; have hPs : ∀ n B, aQ gm P n (mA st P + 1) = some B → ∃ y, l[n]? = some y ∧ B.xs.length = y.ys.length ∧ B.r.width = y.q.width ∧ c5.lc P n = c1.lc P n := by
         intro n B hB; have hgP : mA st P + 1 ≤ cW (ek st x A l) P := by
           unfold cW; rw [yp, if_pos rfl]; have Sp : P < st.length := by have := ER Q7; omega
           have : nth st P = some st[P] := by rw [fK]; exact List.getElem?_eq_getElem Sp
           rw [this]; unfold mA; rw [this]; exact Nat.le_refl _
         obtain ⟨B1, r1, r2, r3, r4, _⟩ := ga.refs P n _ B hgP hB; obtain ⟨sl, k1, k2, k3⟩ := bc r1; rw [yp, if_pos rfl] at k1; obtain ⟨zz, NC, rfl⟩ := Option.map_eq_some_iff.1 k1; simp only at k3; rw [fK, List.getElem?_map] at k3
         cases hy : l[n]? with
         | none => rw [hy] at k3; cases k3
         | some y =>
           rw [hy] at k3; simp only [Option.map_some, Option.some.injEq] at k3; subst k3; exact ⟨y, rfl, r3, r2, r4⟩
       have hG : ∃ G : Nat → Nat → List Nat, ∀ n B y, aQ gm P n (mA st P + 1) = some B → B.own = true → B.md = B.r.md → l[n]? = some y → ∀ v, v.oneCell' = true → iB (c5.lc P n) B.r.width 0 B.xs.length v →
           ∀ (PP : List Nat → Nat → Prop) (p : List Nat), (∀ k, c5.own k = some (.sp P n) → PP (p ++ G n k) k) → dt w' PP (.sl B.r) p v B.xs := by
         have : ∀ n, ∃ G : Nat → List Nat, ∀ B y, aQ gm P n (mA st P + 1) = some B → B.own = true → B.md = B.r.md → l[n]? = some y → ∀ v, v.oneCell' = true → iB (c5.lc P n) B.r.width 0 B.xs.length v →
           ∀ (PP : List Nat → Nat → Prop) (p : List Nat), (∀ k, c5.own k = some (.sp P n) → PP (p ++ G k) k) → dt w' PP (.sl B.r) p v B.xs := by
           intro n
           by_cases e : ∃ B, aQ gm P n (mA st P + 1) = some B ∧ B.own = true ∧ B.md = B.r.md
           · obtain ⟨B, hB, ho, hm⟩ := e
             by_cases e2 : ∃ v : Value, v.oneCell' = true ∧ iB (c5.lc P n) B.r.width 0 B.xs.length v
             · obtain ⟨v, xL, Iv⟩ := e2; obtain ⟨g, hg⟩ := M5 (h5.rH hB) ho hm; refine ⟨g, fun B' y Df _ _ _ v' h1 h2 PP p hP' => ?_⟩; rw [hB] at Df
               cases Df
               exact hg v' h1 h2 PP p hP'
             · refine ⟨fun _ => [], fun B' y Df _ _ _ v' h1 h2 => ?_⟩; rw [hB] at Df
               cases Df
               exact absurd ⟨v', h1, h2⟩ e2
           · exact ⟨fun _ => [], fun B' y Df h1 h2 => absurd ⟨B', Df, h1, h2⟩ e⟩
         obtain ⟨G, hG⟩ := Classical.axiomOfChoice this; exact ⟨G, fun n => hG n⟩
       obtain ⟨G, hG⟩ := hG; have PT : ∃ g6 : Nat → List Nat, (∀ k, c5.own k = some (.sp x.a x.j) → g6 k = gg k) ∧ ∀ n y k, l[n]? = some y → c5.own k = some (.sp P n) → g6 k = [x.i] ++ [y.k] ++ G n k := by
         have key : ∀ k, ∃ q : List Nat, (c5.own k = some (.sp x.a x.j) → q = gg k) ∧ ∀ n y, l[n]? = some y → c5.own k = some (.sp P n) → q = [x.i] ++ [y.k] ++ G n k := by
           intro k
           by_cases e : ∃ n y, l[n]? = some y ∧ c5.own k = some (.sp P n)
           · obtain ⟨n, y, f1, f2⟩ := e; refine ⟨[x.i] ++ [y.k] ++ G n k, fun h => ?_, fun n' y' h1 h2 => ?_⟩
             · rw [f2] at h; injection h with h; injection h with h _; exact absurd h.symm fE
             · rw [f2] at h2; injection h2 with h2; injection h2 with _ h2; subst h2; rw [f1] at h1
               cases h1
               rfl
           · exact ⟨gg k, fun _ => rfl, fun n y h1 h2 => absurd ⟨n, y, h1, h2⟩ e⟩
         obtain ⟨g6, h⟩ := Classical.axiomOfChoice key; exact ⟨g6, fun k => (h k).1, fun n y k => (h k).2 n y⟩
       obtain ⟨g6, Sr, aaQ⟩ := PT; obtain ⟨oJ, ahL⟩ := h5.clear P; have M9 : ∀ n ∈ (List.range l.length).map (fun n => (P, n)), ∀ sl B, nth (lN (fun s => { s with aJ := [], ep := s.ep + 1 }) gm P) n.1 = some sl → nth sl.aJ n.2 ≠ some (some B) := by
         intro n hn sl B hs; obtain ⟨m, _, rfl⟩ := List.mem_map.1 hn; rw [dz, if_pos rfl] at hs; obtain ⟨zz, _, rfl⟩ := Option.map_eq_some_iff.1 hs; simp [nth]
       have hrl := oJ.iv M9 x.a x.j; have x4 : ∀ n y, l[n]? = some y → (P, n) ∈ (List.range l.length).map (fun n => (P, n)) := fun n y hn => List.mem_map.2 ⟨n, List.mem_range.2 (List.getElem?_eq_some_iff.1 hn).1, rfl⟩
       have ND : ∀ k, c5.own k = some (.sp x.a x.j) → (c5.iv ((List.range l.length).map (fun n => (P, n))) (.sp x.a x.j)).own k = some (.sp x.a x.j) := by
         intro k hk; rw [Cz.mK]
         · exact hk
         · intro n hn e; obtain ⟨m, _, rfl⟩ := List.mem_map.1 hn; rw [hk] at e; injection e with e; injection e with e _; exact fE e
       have hH' : aQ (lN (fun s => { s with aJ := [], ep := s.ep + 1 }) gm P) x.a x.j x.g = some H := by
         obtain ⟨sl, k1, k2, k3⟩ := bc hH; exact nc (by rw [dz, if_neg fE]; exact k1) k2 k3
       have Lj : c1.own b = some (.sp x.a x.j) := Dd.stay b Dd.own (fun y _ q e => by rw [Dd.g0] at e; cases e); obtain ⟨WV, hb5⟩ := MF b Lj; have M8 : ∀ (i : Nat) zz, (A.xs.set x.i z')[i]? = some zz → fM w' (fun p k => (c5.iv ((List.range l.length).map (fun n => (P, n))) (.sp x.a x.j)).own k = some (.sp x.a x.j) ∧ g6 k = p) A.r [i] 0 b (o + i * A.r.width) zz := by
         intro i zz NC; rw [List.getElem?_set] at NC
         by_cases e : x.i = i
         · subst e; rw [if_pos rfl, if_pos Dd.len] at NC
           cases NC
           obtain ⟨vs, r1, r2⟩ := (jc _ _ _ _ _ _).1 (Dd.rows x.i z hz); have xK := du.length _ _ _ _ _ r2; refine (jc _ _ _ _ _ _).2 ⟨vs, fun k v hkv => by rw [World.cell?_of_block (w := w) WV]; exact r1 k v hkv, ?_⟩; refine BX 0 l z hj (fun m y hm B hB Ww Sa hBr => ?_) ?_
           · rw [Nat.zero_add] at hB; obtain ⟨v, u1, u2, u3, u4⟩ := Dd.out m y hm; obtain ⟨y', f1, f2, f3, f4⟩ := hPs m B hB; rw [hm] at f1
             cases f1
             have hk : y.k < vs.length := by rw [xK]; exact u4
             have hvk : vs[y.k]? = some vs[y.k] := List.getElem?_eq_getElem hk; have := r1 y.k _ hvk; rw [u1] at this; refine ⟨v, by rw [hvk, ← Option.some.inj this], ?_⟩; refine hG m B y hB Ww (by rw [Sa, hBr]) hm v u2 (by rw [f4, f2, f3, hP]; exact u3) _ _ (fun k hk => ⟨Cz.l7 (x4 m y hm) hk, ?_⟩); exact aaQ m y k hm hk
           · refine hJ.of _ [x.i] (fun k q kb hK hk => ?_) 0 vs z r2; have po := Dd.stay kb hk.1 (fun y hy q' e => hK ⟨y, hy, by
               have h2 := hk.2; rw [e] at h2; simp at h2; exact h2.1⟩)
             obtain ⟨f1, f2⟩ := MF kb po; exact ⟨f1, ND kb f2, by rw [Sr kb f2]; exact hk.2⟩
         · rw [if_neg e] at NC; refine fM.go _ [i] [i] (fun q kb hk => ?_) _ _ _ zz WV (Dd.rows i zz NC); have po := Dd.stay kb hk.1 (fun y _ q' e' => e (by
             have h2 := hk.2; rw [e'] at h2; simp at h2; exact h2.1))
           obtain ⟨f1, f2⟩ := MF kb po; exact ⟨f1, ND kb f2, by rw [Sr kb f2]; exact hk.2⟩
       refine ⟨_, hrl.swap hH' (B := A.put (A.xs.set x.i z')) (by rw [q2, e1]; rfl) (by rw [q3, e2]; show (A.xs.set x.i z').length = _; simp) ?_⟩; unfold bM at hA ⊢; show match c5.lc x.a x.j with | .nil => _ | .at b off cap => _
       rw [aaP]; rw [Dd.lc] at hA; obtain ⟨_, g2, ⟨cur, ty, g3, g4⟩, _⟩ := hA; refine ⟨?_, by show (A.xs.set x.i z').length ≤ cap; simpa using g2, ⟨cur, ty, by rw [WV]; exact g3, g4⟩, ?_⟩
       · show match A.own with | true => _ | false => _
         rw [eY]; exact ND b hb5
       · unfold bn; show match A.md with | .sh => _ | .dp => _ | .ho _ => _
         rw [v8]; exact ⟨g6, by rw [Sr b hb5]; exact Dd.g0, M8⟩
theorem Kh {α β : Type} (f : α → β) : (l : List α) → (n : Nat) → nth (l.map f) n = (nth l n).map f
 | [], _ => rfl
 | _ :: _, 0 => rfl
 | _ :: l, n + 1 => Kh f l n
theorem nv (st : St) (s : Nat) : nth (sv st) s = (nth st s).map (QX st) := Kh _ _ _
theorem D6 (st : St) (a j g : Nat) : aQ (sv st) a j g = aQ st a j g := by
 unfold aQ; rw [nv]
 cases nth st a <;> rfl
theorem D7 (st : St) (a : Nat) : cW (sv st) a = cW st a := by
 unfold cW; rw [nv]
 cases nth st a <;> rfl
theorem D8 (st : St) (a : Nat) : fL (sv st) a = fL st a := by
 unfold fL; rw [nv]
 cases nth st a <;> rfl
theorem NF (st : St) (a : Nat) : lh (sv st) a = lh st a := by
 unfold lh; rw [nv]
 cases nth st a <;> rfl
theorem D9 (st : St) (b g : Nat) : dx (sv st) b g = (dx st b g).map fun cs => cs.map (zV st) := by
 unfold dx; rw [nv]
 cases nth st b with
 | none => rfl
 | some x =>
   show (bif Nat.beq x.bg g then x.box.map _ else none) = _; simp only
   cases Nat.beq x.bg g <;> rfl
theorem Fw.sv (c : Cz) (st : St) (w : World) : Fw c st w c (sv st) w where
 stays := ir.refl w _
 refs a j g A' _ eb := by
   rw [D6] at eb; exact ⟨A', eb, rfl, rfl, rfl, fun _ => ⟨rfl, fun _ _ _ _ => rfl⟩⟩
 AR b g lV _ h := by
   rw [D9] at h; obtain ⟨cs, h1, _⟩ := Option.map_eq_some_iff.1 h; exact ⟨⟨cs, h1⟩, rfl⟩
 gA a := by rw [D7]; exact Nat.le_refl _
 gB a := by rw [D8]; exact Nat.le_refl _
 gE a := by rw [NF]; exact Nat.le_refl _
theorem GJ {w0 : World} {mu : Mu} {c : Cz} {st : St} {a : Act} {w : World} (h : Rel w0 mu c st a w) {x : CV} {v : Value} (hr : iT c st w x v) : iT c st w (zV st x) v := by
 unfold zV
 split
 · split
   · rename_i A hA
     cases ho : A.own with
     | true => exact hr
     | false =>
       cases hm : A.md.is .sh with
       | false => exact hr
       | true =>
         have hm := Md.lg.1 hm; exact xQ (h.rH hA) (hr.2.2 A hA) (ok := c.ok) (fun b h => h) (fun b q => by
           rcases q with q | q
           · rw [ho] at q; cases q
           · rw [hm] at q; cases q) (by rw [hm]; rfl)
   · exact hr
 · exact hr
theorem GK {w0 : World} {mu : Mu} {c : Cz} {st : St} {a : Act} {w : World} (h : Rel w0 mu c st a w) {cs : List CV} {vs : List Value} (hr : eK c st w cs vs) : eK c (sv st) w (cs.map (zV st)) vs := by
 refine ⟨by rw [List.length_map]; exact hr.1, fun i x v h1 h2 => ?_⟩; rw [List.getElem?_map] at h1; obtain ⟨y, hy, rfl⟩ := Option.map_eq_some_iff.1 h1; exact (Fw.sv c st w).MX (GJ h (hr.2 i y v hy h2))
theorem NG {w0 : World} {mu : Mu} {c : Cz} {st : St} {a : Act} {w : World} (h : Rel w0 mu c st a w) {x : V} {v : Value} (hr : eo c st w x v) : eo c (sv st) w (MV st x) v := by
 cases x with
 | one x => exact (Fw.sv c st w).MX (GJ h hr)
 | agg cs =>
   obtain ⟨vs, h1, h2⟩ := hr; exact ⟨vs, h1, GK h h2⟩
 | lU us => exact (Fw.sv c st w).lO hr
theorem Rel.sv {w0 : World} {mu : Mu} {c : Cz} {st : St} {a : Act} {w : World} (h : Rel w0 mu c st a w) : Rel w0 mu c (sv st) a w where
 eL t := by
   have e : bW (Go.TM.sv st) t = MV st (bW st t) := by
     unfold bW; rw [nv]
     cases nth st t <;> rfl
   rw [e]; exact NG h (h.eL t)
 boxes s sl cs hs hb := by
   rw [nv] at hs; obtain ⟨x, hx, rfl⟩ := Option.map_eq_some_iff.1 hs; have hb : x.box.map (fun cs => cs.map (zV st)) = some cs := hb; obtain ⟨MD, hc, rfl⟩ := Option.map_eq_some_iff.1 hb; obtain ⟨k1, vs, ty, k2, k3⟩ := h.boxes s x MD hx hc; exact ⟨k1, vs, ty, k2, GK h k3⟩
 aJ s j sl A hs hb := by
   rw [nv] at hs; obtain ⟨x, hx, rfl⟩ := Option.map_eq_some_iff.1 hs; exact h.aJ s j x A hx hb
 owned := h.owned
 free := h.free
 kept := h.kept
 old := h.old
 plain := h.plain
 dR p hp := by
   have h0 := h.dR p hp
   cases p with
   | arr a j g W n l =>
     refine ⟨by rw [D7]; exact h0.1, fun A hA => ?_⟩; rw [D6] at hA; exact h0.2 A hA
   | box b g mD =>
     refine ⟨by rw [D8]; exact h0.1, fun cs sy => ?_⟩; rw [D9] at sy; obtain ⟨MD, hc, _⟩ := Option.map_eq_some_iff.1 sy; exact h0.2 MD hc
theorem GL {w0 : World} {mu : Mu} {c : Cz} {st : St} {a : Act} {w : World} (ms : List (Pm × V)) (h : Rel w0 mu c st a w) : Rel w0 mu c (zW ms st) a w ∧ ∀ x v, eo c st w x v → eo c (zW ms st) w x v := by
 unfold zW
 cases ms.any (fun m => m.1.MW)
 · exact ⟨h, fun _ _ hr => hr⟩
 · exact ⟨h.sv, fun _ _ hr => (Fw.sv c st w).lO hr⟩
theorem GM {P : Program} {S : jC} (hS : lu P S) {w0 : World} {mu : Mu} {c : Cz} {st aP : St} {a : Act} {w : World} (h : Rel w0 mu c st a w) {o : Oper} {f : FuncId} {vals : Array Value} {xs : List V}
   (ns : ∀ fn, P.funcs[f]? = some fn → fn.name ≠ "runtime.NumGoroutine" → fn.body ≠ none → (execOp a.eval o).run P w = .ok (.enter f vals) w)
   (J2 : xs.length = vals.toList.length) (WW : ∀ (k : Nat) (m : V) (x : Value), xs[k]? = some m → vals.toList[k]? = some x → eo c st w m x)
   (hv : (DO S st o.dst f xs).val = some aP) (hd : ∀ k, o.dst = some k → k < a.tmps.size) : uG P w0 mu aP o a w (pn S st f xs) := by
 unfold pn; unfold DO at hv
 cases hf : S f with
 | none => simp [hf, N.val] at hv
 | some p =>
   obtain ⟨m1, m2, m3, zU⟩ := p; simp only [hf] at hv ⊢; obtain ⟨Ld, fn, NH, aaR, WX⟩ := hS f m1 m2 m3 zU hf; have ns := ns fn NH (by simpa using aaR) (by intro e; rw [e] at WX; cases WX); have Ss := Lc m1 m2 m3 xs; generalize tR m1 m2 m3 xs = ms at hv Ss ⊢; have hlen : ms.length = vals.toList.length := by
     have := congrArg List.length Ss; rw [List.length_map] at this; omega
   have uL : ∀ (k : Nat) (m : Pm × V) (x : Value), ms[k]? = some m → vals.toList[k]? = some x → eo c st w m.2 x := by
     intro k m x hm hx; have h1 : (ms.map (·.2))[k]? = some m.2 := by rw [List.getElem?_map, hm]; rfl
     rw [Ss] at h1; exact WW k m.2 x h1 hx
   have hR := h.freeze (Bo st ms); have Ak : ∀ (k : Nat) (m : Pm × V) (x : Value), ms[k]? = some m → vals.toList[k]? = some x → eo (c.drop (Bo st ms)) (freeze st (Bo st ms)) w m.2 x := fun k m x h1 h2 => (Fw.freeze w _ c st).lO (uL k m x h1 h2)
   generalize freeze st (Bo st ms) = WY at hv hR Ak ⊢; generalize c.drop (Bo st ms) = c0 at hR Ak; have Ak : ∀ (k : Nat) (m : Pm × V) (x : Value), ms[k]? = some m → vals.toList[k]? = some x → eo c0 (zW ms WY) w m.2 x := fun k m x h1 h2 => (GL ms hR).2 _ _ (Ak k m x h1 h2)
   have hR := (GL ms hR).1; generalize zW ms WY = uK at hv hR Ak ⊢; unfold QW at hv
   cases qz : kU uK ms with
   | none =>
     rw [qz] at hv; exact GD hR ns Ld hlen Ak hv hd (fun h => h) (fun c5 gm a2 w' hr _ _ E5 => by
       simp only [N.val, Option.some.injEq] at E5; subst E5; exact ⟨c5, hr⟩)
   | some p =>
     obtain ⟨x, A, l⟩ := p; rw [qz] at hv; simp only at hv ⊢; have WZ : ∀ m ∈ ms, ∃ v, eo c0 uK w m.2 v := by
       intro m hm; obtain ⟨k, hk⟩ := List.mem_iff_getElem?.1 hm; have bX : k < vals.toList.length := by rw [← hlen]; exact (List.getElem?_eq_some_iff.1 hk).1
       exact ⟨_, Ak k m _ hk (List.getElem?_eq_getElem bX)⟩
     obtain ⟨c1, gg, b, oo, cap, VV, ZI, Dd, GN⟩ := uN hR qz WZ; obtain ⟨hl, hA, eY, v8, hep, pK, Lh, fE⟩ := yo qz; refine GD VV ns Ld (by rw [List.length_map]; exact hlen) (fun k m v h1 h2 => ?_) hv hd (fun h => by cases h) (fun c5 gm a2 w' hr hf MF E5 => ?_)
     · rw [List.getElem?_map] at h1; obtain ⟨m0, hm0, rfl⟩ := Option.map_eq_some_iff.1 h1; exact GN m0 (List.mem_of_getElem? hm0) v (Ak k m0 v hm0 h2)
     · refine NB fE hA eY v8 (hR.rH hA) Lh Dd hr hf (fun k hk => ?_) E5; have Lk : ¬ uM (ek uK x A l) (x.a, x.j) := by
         rintro ⟨g', B, hB, Sa⟩
         obtain ⟨sl, k1, k2, k3⟩ := bc hB; rw [uO fE, if_neg fE, if_pos rfl] at k1; obtain ⟨zz, NC, rfl⟩ := Option.map_eq_some_iff.1 k1; simp only at k3; rw [dz, if_pos rfl] at k3
         cases hq : nth zz.aJ x.j with
         | none => rw [hq] at k3; cases k3
         | some B2 =>
           rw [hq] at k3; simp only [Option.map_some, Option.some.injEq] at k3; subst k3
           cases Sa
       cases hex : gY (ek uK x A l) (ms.map (Px (uK.length - 1) (mA uK (uK.length - 1) + 1) l)) with
       | none =>
         unfold F7 at hv; rw [hex] at hv
         cases hv
       | some pp =>
         obtain ⟨dC, u, q, r⟩ := pp; obtain ⟨l1, l2⟩ := Ai _ hex; exact MF dC u q r hex k _ rfl (fun hm => Lk (l1 _ _ hm)) (fun p hp e => by
           injection e with e1 e2; exact Lk (by rw [e1, e2]; exact l2 p hp)) hk
theorem NI {P : Program} {S : jC} (hS : lu P S) {w0 : World} {mu : Mu} {c : Cz} {st aP : St} {a : Act} {w : World} (h : Rel w0 mu c st a w) {o : Oper} {f : FuncId} {args : Array Operand} {K3 : Array TypeId} (ho : o.op = .call { callee := .value (.func f), args := args, argTypes := K3 })
   (hv : (DO S st o.dst f (args.toList.map (kM st))).val = some aP) (hd : ∀ k, o.dst = some k → k < a.tmps.size) : uG P w0 mu aP o a w (kindOk S st o .one) := by
 have hq0 : kindOk S st o .one = pn S st f (args.toList.map (kM st)) := by unfold kindOk; simp only [ho]
 rw [hq0]; refine GM (vals := args.map a.eval) hS h (fun fn NH q2 q3 => ?_) (by simp) (fun k m x hm hx => ?_) hv hd
 · simp only [execOp, ho]; simp [resolve, Act.eval, Deferred.ofValue, invoke, callFunc, Sem.run_bind, NH, q2, q3]
 · rw [List.getElem?_map] at hm; rw [Array.toList_map, List.getElem?_map] at hx
   cases hy : args.toList[k]? with
   | none => rw [hy] at hm; simp at hm
   | some y =>
     rw [hy] at hm hx; simp only [Option.map_some, Option.some.injEq] at hm hx; rw [← hm, ← hx]; exact bh h y
theorem NJ {P : Program} {S : jC} (hS : lu P S) {w0 : World} {mu : Mu} {c : Cz} {st aP : St} {a : Act} {w : World} (h : Rel w0 mu c st a w) {o : Oper} {t g : Nat} {rs : RT} {xs : List (aq rs)} {x : aq rs} {args : Array Operand} {K3 : Array TypeId} (ho : o.op = .call { callee := .value (.tmp t), args := args, argTypes := K3 })
   (ht : bW st t = .one (.fn g rs xs)) (M1 : xs[0]? = some x) (hv : (DO S st o.dst g (args.toList.map (kM st) ++ tS rs x)).val = some aP) (hd : ∀ k, o.dst = some k → k < a.tmps.size) : uG P w0 mu aP o a w (kindOk S st o .one) := by
 have hq0 : kindOk S st o .one = pn S st g (args.toList.map (kM st) ++ tS rs x) := by unfold kindOk; simp only [ho, ht, M1]
 rw [hq0]; have Ld := h.eL t; rw [ht] at Ld; obtain ⟨uq, e, W0⟩ := Ld; obtain ⟨k1, k2⟩ := Gn (st := st) rs uq.toList x (W0 x M1); refine GM (vals := args.map a.eval ++ uq) hS h (fun fn NH q2 q3 => ?_) (by simp [k1]) (fun k m y hm hy => ?_) hv hd
 · simp only [execOp, ho]; simp [resolve, e, Deferred.ofValue, invoke, callFunc, Sem.run_bind, NH, q2, q3]
 · rw [Array.toList_append] at hy
   by_cases hk : k < args.size
   · rw [List.getElem?_append_left (by simpa using hk)] at hm hy; rw [List.getElem?_map] at hm; rw [Array.toList_map, List.getElem?_map] at hy
     cases hz : args.toList[k]? with
     | none => rw [hz] at hm; simp at hm
     | some z =>
       rw [hz] at hm hy; simp only [Option.map_some, Option.some.injEq] at hm hy; rw [← hm, ← hy]; exact bh h z
   · rw [List.getElem?_append_right (by simp; omega)] at hm hy; simp only [List.length_map, Array.length_toList, Array.toList_map] at hm hy; exact k2 _ m y hm hy
theorem IB {P : Program} {T : kh} (hT : fG P T) {S : jC} {w0 : World} {mu : Mu} {c : Cz} {st aP : St} {a : Act} {w : World} (h : Rel w0 mu c st a w) {o : Oper} (qz : F8 st o = true)
   (hv : (HW T S st o).val = some aP) (hd : ∀ k, o.dst = some k → k < a.tmps.size) : uG P w0 mu aP o a w (kindOk S st o .one) := by
 unfold F8 at qz
 cases ho : o.op with
 | call cl =>
   obtain ⟨callee, args, K3⟩ := cl; rw [ho] at qz
   cases callee with
   | builtin b =>
     cases b with
     | append =>
       unfold HW at hv; simp only [ho] at hv qz
       split at hv
       · contradiction
       · rename_i x y t u _ ha ht; obtain ⟨Sg, xL⟩ := dD hv; have Sg := Nat.eq_of_beq_eq_true Sg; subst Sg; have ha : args = #[x, y] := by rw [← Array.toArray_toList (xs := args), ha]
         have ht : K3 = #[t, t] := by rw [← Array.toArray_toList (xs := K3), ht]
         subst ha ht; have qz : (kU st [(.io, kM st x)]).isSome = true := qz; obtain ⟨p, hp⟩ := Option.isSome_iff_exists.1 qz; obtain ⟨z, A, l⟩ := p; unfold EP at xL; rw [hp] at xL; obtain ⟨c1, gg, b, oo, cap, VV, ZI, Dd, GN⟩ := uN h hp (fun m hm => by
           rw [List.mem_singleton] at hm; subst hm; exact ⟨_, bh h x⟩)
         have hx := GN _ (List.mem_singleton.2 rfl) _ (bh h x); have hy := ZI.lO (bh h y); obtain ⟨v, w', h1, c', h2⟩ := BD (ty := o.type) hT VV hx hy xL hd; exact sE (c' := c') (by simp only [execOp, ho]; simp [resolve, invoke, builtin, Sem.run_bind, h1]) h2 (fun hk => by simp [kindOk, ho] at hk)
       all_goals (first | contradiction | (simp [N.val] at hv))
     | _ => simp at qz
   | _ => simp at qz
 | _ => rw [ho] at qz; simp at qz
theorem oQ {P : Program} {T : kh} (hT : fG P T) (hE : uf P T) {S : jC} (hS : lu P S) (w0 : World) (mu : Mu) (n : Nat) : qS P T S w0 mu n := by
 intro c st aP a w o h hn hd hv; have IA : ∀ k, o.dst = some k → k < a.tmps.size := fun k hk => by rw [hn]; exact hd k hk
 by_cases hf : Op.Is o.op = true
 · cases ho : o.op with
   | call cl =>
     obtain ⟨callee, args, K3⟩ := cl
     cases callee with
     | value x =>
       cases x with
       | func f =>
         unfold HW at hv; simp only [ho] at hv; exact NI hS h ho hv IA
       | tmp t =>
         unfold HW at hv; simp only [ho] at hv
         split at hv
         · rename_i g rs xs ht
           cases M1 : xs[0]? with
           | none => simp [M1, N.val] at hv
           | some x =>
             simp only [M1] at hv; exact NJ hS h ho ht M1 hv IA
         · simp [N.val] at hv
       | _ => rw [ho] at hf; simp [Op.Is] at hf
     | _ => rw [ho] at hf; simp [Op.Is] at hf
   | _ => rw [ho] at hf; simp [Op.Is] at hf
 · cases qz : F8 st o with
   | false => exact Sf hT hE h (by simpa using hf) qz hv IA
   | true => exact IB hT h qz hv IA
end Go.TM
namespace Go.TM
open Go Go.RowKit
inductive OP where
 | int (k : IntKind)
 | bool
 | str
 | own (r : RT) (d : Md := .sh)
 | shr (r : RT)
 | kC (r : RT)
 | fn (g : Nat) (rs : RT)
inductive AP where
 | val (agg : Bool) (ps : List OP)
 | io (r : RT) (d : Md := .sh)
 | box (EL : Bool) (ps : List OP)
 | bD (ps : List OP)
def OP.ty : OP → Ty
 | .int k => .int k
 | .bool => .bool
 | .str => .str
 | .own r _ => .sl r
 | .shr r => .sl r
 | .kC r => .sl r
 | .fn _ rs => .sl rs
def OP.mB : OP → Bool
 | .own _ _ => true
 | _ => false
def kO : List OP → RT → RT
 | [], t => t
 | p :: ps, t => .cons p.ty (kO ps t)
def AP.rt : AP → RT → RT
 | .val _ ps, t => kO ps t
 | .io r _, t => .cons (.sl r) t
 | .box _ ps, t => kO ps t
 | .bD ps, t => kO ps t
def aw : List (Option AP) → RT
 | [] => .nil
 | none :: l => aw l
 | some p :: l => p.rt (aw l)
def OP.ov : (p : OP) → den p.ty → OV
 | .int k, n => .int k n
 | .bool, b => .bool b
 | .str, s => .str s
 | .own r d, xs => .own { r := r, own := true, xs := xs, md := d }
 | .shr r, xs => .shr r xs
 | .kC r, xs => .kC r xs
 | .fn g rs, xs => .fn g rs xs
def dA : (ps : List OP) → (t : RT) → aq (kO ps t) → List OV × aq t
 | [], _, x => ([], x)
 | p :: ps, t, x => (p.ov x.1 :: (dA ps t x.2).1, (dA ps t x.2).2)
def AP.av : (p : AP) → (t : RT) → aq (p.rt t) → AV × aq t
 | .val agg ps, t, x => (.val agg (dA ps t x).1, (dA ps t x).2)
 | .io r d, _, x => (.io { r := r, own := true, xs := x.1, md := d }, x.2)
 | .box _ ps, t, x => (.box (dA ps t x).1, (dA ps t x).2)
 | .bD ps, t, x => (.bD (dA ps t x).1, (dA ps t x).2)
def ca : (l : List (Option AP)) → aq (aw l) → List (Option AV)
 | [], _ => []
 | none :: l, x => none :: ca l x
 | some p :: l, x => some (p.av (aw l) x).1 :: ca l (p.av (aw l) x).2
def pO : (p : OP) → OV → Option (den p.ty)
 | .int k, .int l n => if k = l then some n else none
 | .bool, .bool b => some b
 | .str, .str s => some s
 | .own r d, .own A => bif A.md.is d then bA r A.xs else none
 | .own _ _, .dL => some ([] : List _)
 | .shr r, .shr _ xs => bA r xs
 | .shr _, .dL => some ([] : List _)
 | .kC r, .kC _ xs => bA r xs
 | .fn g rs, .fn f _ xs => bif Nat.beq f g then bA rs xs else none
 | _, _ => none
def dj : (ps : List OP) → (t : RT) → List OV → aq t → Option (aq (kO ps t))
 | [], _, [], y => some y
 | p :: ps, t, o :: os, y => match pO p o, dj ps t os y with
   | some x, some z => some (x, z)
   | _, _ => none
 | _, _, _, _ => none
def Ea : (p : AP) → (t : RT) → AV → aq t → Option (aq (p.rt t))
 | .val true ps, t, .val true os, y => dj ps t os y
 | .val false ps, t, .val false os, y => dj ps t os y
 | .io r d, _, .io A, y => bif A.md.is d then (match bA r A.xs with
   | some xs => some (xs, y)
   | none => none) else none
 | .box _ ps, t, .box os, y => dj ps t os y
 | .bD ps, t, .bD os, y => dj ps t os y
 | _, _, _, _ => none
def eM : (l : List AP) → List AV → Option (aq (aw (l.map some)))
 | [], [] => some ()
 | p :: l, a :: as => match eM l as with
   | some y => Ea p (aw (l.map some)) a y
   | none => none
 | _, _ => none
def j2 (st : St) : (ps : List OP) → (t : RT) → List CV → aq t → Option (aq (kO ps t) × List (Option Lb) × List (Nat × Nat))
 | [], _, [], y => some (y, [], [])
 | p :: ps, t, c :: cs, y => match fq st p.mB c, j2 st ps t cs y with
   | some (o, u, r), some (z, us, rs) => match pO p o with
     | some x => some ((x, z), u :: us, r ++ rs)
     | none => none
   | _, _ => none
 | _, _, _, _ => none
def Al (st : St) (k : Nat) : (p : AP) → (t : RT) → V → aq t → Option (aq (p.rt t) × List Lb × List (Nat × Nat))
 | .val agg ps, t, v, y =>
   match agg, v with
   | true, .agg cs => (j2 st ps t cs y).map fun q => (q.1, bI q.2.1, q.2.2)
   | false, .one c => (j2 st ps t [c] y).map fun q => (q.1, bI q.2.1, q.2.2)
   | _, _ => none
 | .io r d, _, v, y =>
   match v with
   | .one (.ref a j g .full) => bif Nat.beq a k && (Nat.beq j 0 && Nat.beq g 1) then ((aQ st a j g).bind fun A => bif A.own && A.md.is d then (bA r A.xs).map fun xs => ((xs, y), [.sp a j], []) else none) else none
   | _ => none
 | .box EL ps, t, v, y =>
   match v with
   | .one (.ptr b g off) => bif Nat.beq off 0 && (!EL || (Nat.beq b k && Nat.beq g 1)) then ((dx st b g).bind fun cs => (j2 st ps t cs y).map fun q => (q.1, .box b :: bI q.2.1, q.2.2)) else none
   | _ => none
 | .bD _, _, _, _ => none
def l9 (st : St) : (k : Nat) → (l : List (Option AP)) → Option (aq (aw l) × List Lb × List (Nat × Nat))
 | _, [] => some ((), [], [])
 | k, none :: l => l9 st (k + 1) l
 | k, some p :: l => match l9 st (k + 1) l with
   | some (y, us, rs) => match Al st k p (aw l) (bW st k) y with
     | some (x, u, r) => some (x, u ++ us, r ++ rs)
     | none => none
   | none => none
def Sl.blank : Sl := { v := .one .bad, box := .none, bg := 1, aJ := [], ag := 1 }
def cS (k : Nat) : Option AV → Sl
 | none => Sl.blank
 | some (.bD os) => { v := .agg (aV k 1 0 os), box := none, bg := 1, aJ := aX os, ag := 1 }
 | some (.val true os) => { v := .agg (aV k 1 0 os), box := none, bg := 1, aJ := aX os, ag := 1 }
 | some (.val false os) => { v := match aV k 1 0 os with | [c] => .one c | _ => .one .bad, box := none, bg := 1, aJ := aX os, ag := 1 }
 | some (.io A) => { v := .one (.ref k 0 1 .full), box := none, bg := 1, aJ := [some A], ag := 1 }
 | some (.box os) => { v := .one (.ptr k 1 0), box := some (aV k 1 0 os), bg := 1, aJ := aX os, ag := 1 }
def mE : (k : Nat) → List (Option AV) → St
 | _, [] => []
 | k, a :: l => cS k a :: mE (k + 1) l
theorem Eb : (l : List (Option AV)) → (k i : Nat) → nth (mE k l) i = (l[i]?).map (cS (k + i))
 | [], _, _ => by simp [mE]
 | a :: l, k, 0 => by simp [mE, nth]
 | a :: l, k, i + 1 => by
   simp only [mE, nth, List.getElem?_cons_succ]; rw [Eb l (k + 1) i, show k + 1 + i = k + (i + 1) by omega]
theorem GO {c : Cz} {w : World} {f : Nat → Lb} {j : Nat} : (p : OP) → (o : OV) → (x : den p.ty) → pO p o = some x → {os yc : List OV} → {vs : List Value} → (∀ l, bd c w f (j + 1) os l → bd c w f (j + 1) yc l) → bd c w f j (o :: os) vs → bd c w f j (p.ov x :: yc) vs
 | .int k, .int l n, x, hx, os, yc, vs, ri, h => by
   have hx : (if k = l then some (n : Int) else none) = some (x : Int) := hx
   by_cases e : k = l
   · rw [if_pos e] at hx; have hx : n = x := Option.some.inj hx; obtain ⟨l', h1, h2⟩ := h; exact ⟨l', by rw [h1, e, hx], ri _ h2⟩
   · rw [if_neg e] at hx
     cases hx
 | .bool, .bool b, x, hx, os, yc, vs, ri, h => by
   have hx : b = x := Option.some.inj hx; subst hx; obtain ⟨l', h1, h2⟩ := h; exact ⟨l', h1, ri _ h2⟩
 | .str, .str b, x, hx, os, yc, vs, ri, h => by
   have hx : b = x := Option.some.inj hx; subst hx; obtain ⟨l', h1, h2⟩ := h; exact ⟨l', h1, ri _ h2⟩
 | .own r d, .own A, x, hx, os, yc, vs, ri, h => by
   obtain ⟨v, l', h1, ⟨lc, h2⟩, h3⟩ := h; have hx : (bif A.md.is d then bA r A.xs else none) = some x := hx; obtain ⟨hd, hx⟩ := aH hx; have hd := Md.lg.1 hd; obtain ⟨e, rfl⟩ := a6 hx; obtain ⟨r0, Im, nS, Sb⟩ := A; simp only at e hd; subst e hd; have ho : Im = true := h2.2.2.1; subst ho; exact ⟨v, l', h1, ⟨lc, h2⟩, ri _ h3⟩
 | .own r _, .dL, x, hx, os, yc, vs, ri, h => by
   have hx : ([] : List (aq r)) = x := Option.some.inj hx; subst hx; obtain ⟨l', h1, h2⟩ := h; exact ⟨_, l', h1, ⟨.nil, rfl, ⟨rfl, rfl⟩, rfl, rfl⟩, ri _ h2⟩
 | .shr r, .shr q xs, x, hx, os, yc, vs, ri, h => by
   obtain ⟨v, l', h1, h2, h3⟩ := h; have hx : bA r xs = some x := hx; obtain ⟨e, rfl⟩ := a6 hx; subst e; exact ⟨v, l', h1, h2, ri _ h3⟩
 | .shr r, .dL, x, hx, os, yc, vs, ri, h => by
   have hx : ([] : List (aq r)) = x := Option.some.inj hx; subst hx; obtain ⟨l', h1, h2⟩ := h; exact ⟨_, l', h1, (mC _ _ _ _ _).2 (.inl ⟨rfl, rfl⟩), ri _ h2⟩
 | .kC r, .kC q xs, x, hx, os, yc, vs, ri, h => by
   obtain ⟨v, l', h1, h2, h3⟩ := h; have hx : bA r xs = some x := hx; obtain ⟨e, rfl⟩ := a6 hx; subst e; exact ⟨v, l', h1, h2, ri _ h3⟩
 | .fn g r, .fn f q xs, x, hx, os, yc, vs, ri, h => by
   obtain ⟨v, l', h1, h2, h3⟩ := h; have hx : (bif Nat.beq f g then bA r xs else none) = some x := hx; obtain ⟨hfg, hx⟩ := aH hx; have hfg := Nat.eq_of_beq_eq_true hfg; subst hfg; obtain ⟨e, rfl⟩ := a6 hx; subst e; exact ⟨v, l', h1, h2, ri _ h3⟩
 | .int _, .bool _, _, hx, _, _, _, _, _ => by cases hx
 | .int _, .str _, _, hx, _, _, _, _, _ => by cases hx
 | .int _, .own _, _, hx, _, _, _, _, _ => by cases hx
 | .int _, .shr _ _, _, hx, _, _, _, _, _ => by cases hx
 | .int _, .dL, _, hx, _, _, _, _, _ => by cases hx
 | .int _, .kC _ _, _, hx, _, _, _, _, _ => by cases hx
 | .int _, .fn _ _ _, _, hx, _, _, _, _, _ => by cases hx
 | .bool, .int _ _, _, hx, _, _, _, _, _ => by cases hx
 | .bool, .str _, _, hx, _, _, _, _, _ => by cases hx
 | .bool, .own _, _, hx, _, _, _, _, _ => by cases hx
 | .bool, .shr _ _, _, hx, _, _, _, _, _ => by cases hx
 | .bool, .dL, _, hx, _, _, _, _, _ => by cases hx
 | .bool, .kC _ _, _, hx, _, _, _, _, _ => by cases hx
 | .bool, .fn _ _ _, _, hx, _, _, _, _, _ => by cases hx
 | .str, .int _ _, _, hx, _, _, _, _, _ => by cases hx
 | .str, .bool _, _, hx, _, _, _, _, _ => by cases hx
 | .str, .own _, _, hx, _, _, _, _, _ => by cases hx
 | .str, .shr _ _, _, hx, _, _, _, _, _ => by cases hx
 | .str, .dL, _, hx, _, _, _, _, _ => by cases hx
 | .str, .kC _ _, _, hx, _, _, _, _, _ => by cases hx
 | .str, .fn _ _ _, _, hx, _, _, _, _, _ => by cases hx
 | .own _ _, .int _ _, _, hx, _, _, _, _, _ => by cases hx
 | .own _ _, .bool _, _, hx, _, _, _, _, _ => by cases hx
 | .own _ _, .str _, _, hx, _, _, _, _, _ => by cases hx
 | .own _ _, .shr _ _, _, hx, _, _, _, _, _ => by cases hx
 | .own _ _, .kC _ _, _, hx, _, _, _, _, _ => by cases hx
 | .own _ _, .fn _ _ _, _, hx, _, _, _, _, _ => by cases hx
 | .shr _, .int _ _, _, hx, _, _, _, _, _ => by cases hx
 | .shr _, .bool _, _, hx, _, _, _, _, _ => by cases hx
 | .shr _, .str _, _, hx, _, _, _, _, _ => by cases hx
 | .shr _, .own _, _, hx, _, _, _, _, _ => by cases hx
 | .shr _, .kC _ _, _, hx, _, _, _, _, _ => by cases hx
 | .shr _, .fn _ _ _, _, hx, _, _, _, _, _ => by cases hx
 | .kC _, .int _ _, _, hx, _, _, _, _, _ => by cases hx
 | .kC _, .bool _, _, hx, _, _, _, _, _ => by cases hx
 | .kC _, .str _, _, hx, _, _, _, _, _ => by cases hx
 | .kC _, .own _, _, hx, _, _, _, _, _ => by cases hx
 | .kC _, .shr _ _, _, hx, _, _, _, _, _ => by cases hx
 | .kC _, .dL, _, hx, _, _, _, _, _ => by cases hx
 | .kC _, .fn _ _ _, _, hx, _, _, _, _, _ => by cases hx
 | .fn _ _, .int _ _, _, hx, _, _, _, _, _ => by cases hx
 | .fn _ _, .bool _, _, hx, _, _, _, _, _ => by cases hx
 | .fn _ _, .str _, _, hx, _, _, _, _, _ => by cases hx
 | .fn _ _, .own _, _, hx, _, _, _, _, _ => by cases hx
 | .fn _ _, .shr _ _, _, hx, _, _, _, _, _ => by cases hx
 | .fn _ _, .dL, _, hx, _, _, _, _, _ => by cases hx
 | .fn _ _, .kC _ _, _, hx, _, _, _, _, _ => by cases hx
theorem rO {c : Cz} {w : World} {f : Nat → Lb} : (ps : List OP) → (t : RT) → (os : List OV) → (y : aq t) → {x : aq (kO ps t)} → dj ps t os y = some x → (dA ps t x).2 = y ∧ ∀ (j : Nat) (vs : List Value), bd c w f j os vs → bd c w f j (dA ps t x).1 vs
 | [], t, [], y, x, h => by
   have h : y = x := Option.some.inj h; subst h; exact ⟨rfl, fun _ _ h => h⟩
 | [], _, _ :: _, _, _, h => by simp [dj] at h
 | _ :: _, _, [], _, _, h => by simp [dj] at h
 | p :: ps, t, o :: os, y, x, h => by
   unfold dj at h
   cases h1 : pO p o with
   | none => simp [h1] at h
   | some a =>
     cases h2 : dj ps t os y with
     | none => simp [h1, h2] at h
     | some z =>
       simp only [h1, h2] at h; have h : (a, z) = x := Option.some.inj h; subst h; obtain ⟨g1, g2⟩ := rO (c := c) (w := w) (f := f) ps t os y h2; exact ⟨g1, fun j vs hh => GO p o a h1 (fun l => g2 (j + 1) l) hh⟩
theorem bd.NK {c : Cz} {w : World} {f : Nat → Lb} : (os : List OV) → (j : Nat) → (vs : List Value) → bd c w f j os vs → vs.length = os.length ∧ ∀ (k : Nat) (o : OV) (u : Value), os[k]? = some o → vs[k]? = some u → bd c w f (j + k) [o] [u]
 | [], j, vs, h => by
   subst h; exact ⟨rfl, fun k o u h => by simp at h⟩
 | o :: os, j, vs, h => by
   obtain ⟨v, l, rfl, h1, h2⟩ : ∃ v l, vs = v :: l ∧ bd c w f j [o] [v] ∧ bd c w f (j + 1) os l := by
     cases o with
     | int k n => obtain ⟨l, h1, h2⟩ := h; exact ⟨_, l, h1, ⟨[], rfl, rfl⟩, h2⟩
     | bool b => obtain ⟨l, h1, h2⟩ := h; exact ⟨_, l, h1, ⟨[], rfl, rfl⟩, h2⟩
     | str b => obtain ⟨l, h1, h2⟩ := h; exact ⟨_, l, h1, ⟨[], rfl, rfl⟩, h2⟩
     | dL => obtain ⟨l, h1, h2⟩ := h; exact ⟨_, l, h1, ⟨[], rfl, rfl⟩, h2⟩
     | shr r xs => obtain ⟨v, l, h1, h2, h3⟩ := h; exact ⟨v, l, h1, ⟨v, [], rfl, h2, rfl⟩, h3⟩
     | kC r xs => obtain ⟨v, l, h1, h2, h3⟩ := h; exact ⟨v, l, h1, ⟨v, [], rfl, h2, rfl⟩, h3⟩
     | fn g r xs => obtain ⟨v, l, h1, h2, h3⟩ := h; exact ⟨v, l, h1, ⟨v, [], rfl, h2, rfl⟩, h3⟩
     | own A => obtain ⟨v, l, h1, h2, h3⟩ := h; exact ⟨v, l, h1, ⟨v, [], rfl, h2, rfl⟩, h3⟩
   obtain ⟨g1, g2⟩ := bd.NK os (j + 1) l h2; refine ⟨by simp [g1], fun k o' u ho hu => ?_⟩
   cases k with
   | zero =>
     simp only [List.getElem?_cons_zero, Option.some.injEq] at ho hu; subst ho hu; exact h1
   | succ k =>
     have := g2 k o' u (by simpa using ho) (by simpa using hu)
     rwa [show j + 1 + k = j + (k + 1) by omega] at this
theorem Ec : (ps : List OP) → (t : RT) → (os : List OV) → (y : aq t) → {x : aq (kO ps t)} → dj ps t os y = some x → ∀ (k : Nat) (o' : OV), (dA ps t x).1[k]? = some o' → ∃ (p : OP) (o : OV) (z : den p.ty), os[k]? = some o ∧ pO p o = some z ∧ o' = p.ov z
 | [], t, [], y, x, h => by
   intro k o' hk; simp [dA] at hk
 | [], _, _ :: _, _, _, h => by simp [dj] at h
 | _ :: _, _, [], _, _, h => by simp [dj] at h
 | p :: ps, t, o :: os, y, x, h => by
   unfold dj at h
   cases h1 : pO p o with
   | none => simp [h1] at h
   | some a =>
     cases h2 : dj ps t os y with
     | none => simp [h1, h2] at h
     | some z =>
       simp only [h1, h2] at h; have h : (a, z) = x := Option.some.inj h; subst h; intro k o' hk
       cases k with
       | zero =>
         have hk : some (p.ov a) = some o' := hk; simp only [Option.some.injEq] at hk; exact ⟨p, o, a, rfl, h1, hk.symm⟩
       | succ k =>
         have hk : (dA ps t z).1[k]? = some o' := hk; obtain ⟨p', o1, z', q1, q2, q3⟩ := Ec ps t os y h2 k o' hk; exact ⟨p', o1, z', by simpa using q1, q2, q3⟩
theorem Ll {p : OP} {o : OV} {z : den p.ty} (h : pO p o = some z) {A : gr} (he : p.ov z = .own A) : (∃ B, o = .own B ∧ A.r = B.r ∧ A.own = true ∧ A.xs.length = B.xs.length ∧ (B.own = true → A = B)) ∨ (o = .dL ∧ ∃ r d, A = { r := r, own := true, xs := ([] : List (aq r)), md := d }) := by
 cases p with
 | own r d =>
   injection he with he; subst he
   cases o with
   | own B =>
     have h : (bif B.md.is d then bA r B.xs else none) = some z := h; obtain ⟨hd, h⟩ := aH h; have hd := Md.lg.1 hd; obtain ⟨e, rfl⟩ := a6 h; obtain ⟨r0, Im, nS, Sb⟩ := B; simp only at e hd; subst e hd; exact .inl ⟨_, rfl, rfl, rfl, rfl, fun ho => by simp only at ho; subst ho; rfl⟩
   | dL =>
     have h : ([] : List (aq r)) = z := Option.some.inj h; subst h; exact .inr ⟨rfl, r, d, rfl⟩
   | _ => cases h
 | int _ => cases he
 | bool => cases he
 | str => cases he
 | shr _ => cases he
 | kC _ => cases he
 | fn _ _ => cases he
theorem GP {p : OP} (z : den p.ty) : p.ov z ≠ .dL := by
 cases p <;> (intro h; cases h)
theorem GQ {c : Cz} {w : World} {i : Nat} {lc : Nat → Loc} {p : AP} {t : RT} {av : AV} {y : aq t} {x : aq (p.rt t)} (h : Ea p t av y = some x) : (p.av t x).2 = y ∧ ∀ v, qT c w i lc av v → qT c w i lc (p.av t x).1 v := by
 cases p with
 | val agg ps =>
   cases agg with
   | true =>
     cases av with
     | val PU os =>
       cases PU with
       | true =>
         have h : dj ps t os y = some x := h; obtain ⟨g1, g2⟩ := rO (c := c) (w := w) (f := .bK i) ps t os y h; exact ⟨g1, fun v ⟨vs, hv, hl⟩ => ⟨vs, hv, g2 0 _ hl⟩⟩
       | false => cases h
     | _ => cases h
   | false =>
     cases av with
     | val PU os =>
       cases PU with
       | false =>
         have h : dj ps t os y = some x := h; obtain ⟨g1, g2⟩ := rO (c := c) (w := w) (f := .bK i) ps t os y h; exact ⟨g1, fun v hl => g2 0 _ hl⟩
       | true => cases h
     | _ => cases h
 | io r d =>
   cases av with
   | io A =>
     have h : (bif A.md.is d then (match bA r A.xs with | some xs => some ((xs, y) : aq (.cons (.sl r) t)) | none => none) else none) = some x := h; obtain ⟨hd, h⟩ := aH h; have hd := Md.lg.1 hd
     cases hc : bA r A.xs with
     | none => rw [hc] at h; cases h
     | some xs =>
       rw [hc] at h
       cases h
       refine ⟨rfl, fun v hl => ?_⟩; obtain ⟨e, rfl⟩ := a6 hc; obtain ⟨r0, Im, nS, Sb⟩ := A; simp only at e hd; subst e hd; have ho : Im = true := hl.2.2.1; subst ho; exact hl
   | _ => cases h
 | box EL ps =>
   cases av with
   | box os =>
     have h : dj ps t os y = some x := h; obtain ⟨g1, g2⟩ := rO (c := c) (w := w) (f := .bK i) ps t os y h; exact ⟨g1, fun v ⟨mD, vs, ty, q1, q2, q3, q4⟩ => ⟨mD, vs, ty, q1, q2, q3, g2 0 _ q4⟩⟩
   | _ => cases h
 | bD ps =>
   cases av with
   | bD os =>
     have h : dj ps t os y = some x := h; obtain ⟨g1, g2⟩ := rO (c := c) (w := w) (f := .bK i) ps t os y h; refine ⟨g1, fun v ⟨vs, q1, q2, q3⟩ => ⟨vs, q1, g2 0 _ q2, fun j o u ho hu => ?_⟩⟩; obtain ⟨p, o0, z, k1, k2, rfl⟩ := Ec ps t os y h j o ho; have h0 := q3 j o0 u k1 hu; have hL := (bd.NK os 0 _ q2).2 j o0 u k1 hu; unfold Nk at h0 ⊢
     cases he : p.ov z with
     | dL => exact absurd he (GP z)
     | own A =>
       rcases Ll k2 he with ⟨B, rfl, e1, e2, e3, e4⟩ | ⟨rfl, r, d, rfl⟩
       · have h0 : OwnAt c w (.bK i j) (lc j) B u := h0; have := e4 h0.2.2.1; subst this; exact h0
       · have h0 : lc j = .nil := h0; obtain ⟨l, hl, _⟩ := hL; injection hl with hl _; subst hl; show OwnAt c w (.bK i j) (lc j) _ _; rw [h0]; exact ⟨rfl, ⟨rfl, rfl⟩, rfl, rfl⟩
     | _ => trivial
   | _ => cases h
end Go.TM
namespace Go.TM
open Go Go.RowKit
theorem uP {w0 : World} {mu : Mu} {c : Cz} {st : St} {a : Act} {w : World} (h : Rel w0 mu c st a w) {ρ : Lb → Option Lb} {f : Nat → Lb} : (ps : List OP) → (t : RT) → (cs : List CV) → (y : aq t) → (vs : List Value) → (j : Nat) → eK c st w cs vs → {x : aq (kO ps t)} → {u : List (Option Lb)} → {r : List (Nat × Nat)} →
   j2 st ps t cs y = some (x, u, r) → (dA ps t x).2 = y ∧ (∀ l ∈ bI u, l.real = true) ∧ ((∀ k l, nth u k = some (some l) → ρ l = some (f (j + k))) → (∀ p ∈ r, ρ (.sp p.1 p.2) = none) → bd (c.map ρ) w f j (dA ps t x).1 vs)
 | [], t, [], y, vs, j, hl, x, u, r, he => by
   have he : some (y, ([] : List (Option Lb)), ([] : List (Nat × Nat))) = some (x, u, r) := he; injection he with he; injection he with e1 e2; injection e2 with e2 e3; subst e1 e2 e3; have := hl.1; simp at this; exact ⟨rfl, by simp [bI], fun _ _ => List.length_eq_zero_iff.1 this.symm⟩
 | [], t, _ :: _, y, vs, j, hl, x, u, r, he => by simp [j2] at he
 | _ :: _, t, [], y, vs, j, hl, x, u, r, he => by simp [j2] at he
 | p :: ps, t, cx :: cs, y, vs, j, hl, x, u, r, he => by
   obtain ⟨v, l, rfl, hx, wk⟩ := hl.Q2; unfold j2 at he
   cases hc : fq st p.mB cx with
   | none => simp [hc] at he
   | some q1 =>
     obtain ⟨o, u1, r1⟩ := q1
     cases hq : j2 st ps t cs y with
     | none => simp [hc, hq] at he
     | some q2 =>
       obtain ⟨z, us, rs⟩ := q2; simp only [hc, hq] at he
       cases ho : pO p o with
       | none => simp [ho] at he
       | some a1 =>
         simp only [ho] at he; injection he with he; injection he with e1 e2; injection e2 with e2 e3; subst e1 e2 e3; obtain ⟨g1, g2, g3⟩ := uP h (ρ := ρ) (f := f) ps t cs y l (j + 1) wk hq; refine ⟨g1, fun l' hm => ?_, fun hu hr => ?_⟩
         · rw [gd] at hm; rcases List.mem_cons.1 hm with hm | hm
           · obtain ⟨s, k, rfl⟩ := D0 hc l' hm.symm; rfl
           · exact g2 l' (gd.2 hm)
         · have eP := g3 (fun k' l' hk => by
             have := hu (k' + 1) l' hk
             rwa [show j + (k' + 1) = j + 1 + k' by omega] at this) (fun p hp => hr p (List.mem_append_right _ hp))
           have h1 := Kc h (f := f) (j := j) hx hc (fun l' wk => hu 0 l' (by rw [wk]; rfl)) (fun p hp => hr p (List.mem_append_left _ hp)) eP; exact GO p o a1 ho (fun _ h => h) h1
def zx (c : Cz) (w : World) (lc : Nat → Nat → Loc) (a : Act) (k : Nat) (l : List (Option AV)) : Prop :=
 ∀ i av, l[i]? = some (some av) → qT c w (k + i) (lc (k + i)) av (a.eval (.tmp (k + i)))
theorem yr {w0 : World} {mu : Mu} {c : Cz} {st : St} {a : Act} {w : World} (h : Rel w0 mu c st a w) (k : Nat) {p : AP} {t : RT} {V : V} {y : aq t} {v : Value} (hV : eo c st w V v) {x : aq (p.rt t)} {u : List Lb} {r : List (Nat × Nat)} (he : Al st k p t V y = some (x, u, r)) :
   (p.av t x).2 = y ∧ (∀ l ∈ u, l.real = true) ∧ ∃ tb : List (Lb × Lb), tb.map (·.1) = u ∧ (∀ p ∈ tb, p.2.jD = true) ∧ ∀ ρ : Lb → Option Lb, (∀ p ∈ tb, ρ p.1 = some p.2) → (∀ p ∈ r, ρ (.sp p.1 p.2) = none) → qT (c.map ρ) w k (c.lc k) (p.av t x).1 v := by
 have vals : ∀ (ps : List OP) (cs : List CV) (x : aq (kO ps t)) (us : List (Option Lb)) (rs : List (Nat × Nat)) (vs : List Value), eK c st w cs vs → j2 st ps t cs y = some (x, us, rs) → (dA ps t x).2 = y ∧ (∀ l ∈ bI us, l.real = true) ∧
     ∀ ρ : Lb → Option Lb, (∀ p ∈ yh (.bK k) 0 us, ρ p.1 = some p.2) → (∀ p ∈ rs, ρ (.sp p.1 p.2) = none) → bd (c.map ρ) w (.bK k) 0 (dA ps t x).1 vs := by
   intro ps cs x us rs vs hl hq; refine ⟨(uP h (ρ := fun _ => none) (f := .bK k) ps t cs y vs 0 hl hq).1, (uP h (ρ := fun _ => none) (f := .bK k) ps t cs y vs 0 hl hq).2.1, fun ρ hp hr => (uP h (ρ := ρ) (f := .bK k) ps t cs y vs 0 hl hq).2.2 (fun k' l hk => ?_) hr⟩; have := hp _ (uI (.bK k) 0 us k' l hk); simpa using this
 cases p with
 | val agg ps =>
   cases agg with
   | true =>
     cases V with
     | agg cs =>
       have he : (j2 st ps t cs y).map (fun q => (q.1, bI q.2.1, q.2.2)) = some (x, u, r) := he
       cases hq : j2 st ps t cs y with
       | none => rw [hq] at he; cases he
       | some q =>
         obtain ⟨z, us, rs⟩ := q; rw [hq] at he; injection he with he; injection he with e1 e2; injection e2 with e2 e3; subst e1 e2 e3; obtain ⟨vs, rfl, hl⟩ := hV; obtain ⟨g1, g2, g3⟩ := vals _ _ _ _ _ _ hl hq; exact ⟨g1, g2, iU k (.val true []) [] us, lq _ _ _ _, lr _ _ _ _, fun ρ hp hr => ⟨vs, rfl, g3 ρ (fun p jZ => hp p (by simpa [iU] using jZ)) hr⟩⟩
     | one _ => cases he
     | lU _ => cases he
   | false =>
     cases V with
     | one cx =>
       have he : (j2 st ps t [cx] y).map (fun q => (q.1, bI q.2.1, q.2.2)) = some (x, u, r) := he
       cases hq : j2 st ps t [cx] y with
       | none => rw [hq] at he; cases he
       | some q =>
         obtain ⟨z, us, rs⟩ := q; rw [hq] at he; injection he with he; injection he with e1 e2; injection e2 with e2 e3; subst e1 e2 e3; obtain ⟨g1, g2, g3⟩ := vals _ _ _ _ _ [v] ⟨rfl, fun k y z hy hz => by
           cases k with
           | zero => simp at hy hz; subst hy hz; exact hV
           | succ k => simp at hy⟩ hq
         exact ⟨g1, g2, iU k (.val true []) [] us, lq _ _ _ _, lr _ _ _ _, fun ρ hp hr => g3 ρ (fun p jZ => hp p (by simpa [iU] using jZ)) hr⟩
     | agg _ => cases he
     | lU _ => cases he
 | io rr d =>
   cases V with
   | one cx =>
     cases cx with
     | ref s j g vw =>
       cases vw with
       | full =>
         have he : (bif Nat.beq s k && (Nat.beq j 0 && Nat.beq g 1) then ((aQ st s j g).bind fun A => bif A.own && A.md.is d then (bA rr A.xs).map fun xs => ((xs, y), [Lb.sp s j], ([] : List (Nat × Nat))) else none) else none) = some (x, u, r) := he; obtain ⟨h1, wa⟩ := aH he; clear he; rw [Bool.and_eq_true, Bool.and_eq_true] at h1; have e1 := Nat.eq_of_beq_eq_true h1.1; have e2 := Nat.eq_of_beq_eq_true h1.2.1; subst e1 e2
         cases hA : aQ st s 0 g with
         | none => rw [hA] at wa; cases wa
         | some A =>
           rw [hA] at wa; obtain ⟨ho, VW⟩ := aH wa; rw [Bool.and_eq_true] at ho; have hd := Md.lg.1 ho.2; have ho := ho.1
           cases hc : bA rr A.xs with
           | none => rw [hc] at VW; cases VW
           | some xs =>
             rw [hc] at VW; injection VW with VW; injection VW with e1 e2; injection e2 with e2 e3; subst e1 e2 e3; refine ⟨rfl, by simp [Lb.real], [(.sp s 0, .bK s 0)], rfl, by simp [Lb.jD], fun ρ hp _ => ?_⟩; have ha := vQ h hA; have hs := hV.2.2 A hA; have hρ : ρ (.sp s 0) = some (.bK s 0) := hp (.sp s 0, .bK s 0) (by simp); obtain ⟨e, rfl⟩ := a6 hc; obtain ⟨r0, Im, nS, Sb⟩ := A; simp only at e hd; subst e hd; have ho : Im = true := by first | exact ho | exact ho.1
             subst ho; refine ⟨hV.1, hs, rfl, ?_⟩; unfold bM at ha
             cases gz : c.lc s 0 with
             | nil => rw [gz] at ha; exact ha
             | «at» b off cap =>
               rw [gz] at ha; obtain ⟨h0, h2, h3, h4⟩ := ha; exact ⟨(Cz.jI h0).trans hρ, h2, h3, h4.map hρ⟩
       | «from» _ => cases he
       | sub _ _ => cases he
     | _ => cases he
   | agg _ => cases he
   | lU _ => cases he
 | box EL ps =>
   cases V with
   | one cx =>
     cases cx with
     | ptr b g off =>
       have he : (bif Nat.beq off 0 && (!EL || (Nat.beq b k && Nat.beq g 1)) then ((dx st b g).bind fun cs => (j2 st ps t cs y).map fun q => (q.1, Lb.box b :: bI q.2.1, q.2.2)) else none) = some (x, u, r) := he; obtain ⟨h1, wa⟩ := aH he; clear he; rw [Bool.and_eq_true] at h1; have e1 := Nat.eq_of_beq_eq_true h1.1; subst e1
       cases hb : dx st b g with
       | none => rw [hb] at wa; cases wa
       | some cs =>
         rw [hb] at wa; simp only [Option.bind_some] at wa
         cases hq : j2 st ps t cs y with
         | none => rw [hq] at wa; cases wa
         | some q =>
           obtain ⟨z, us, rs⟩ := q; rw [hq] at wa; injection wa with wa; injection wa with e1 e2; injection e2 with e2 e3; subst e1 e2 e3; obtain ⟨sl, k1, k2, k3⟩ := gw hb; obtain ⟨h1, vs, ty, h2, h3⟩ := h.boxes b sl cs k1 k3; obtain ⟨g1, g2, g3⟩ := vals _ _ _ _ _ _ h3 hq; refine ⟨g1, fun l hl => ?_, iU k (.box []) [.box b] us, by rw [lq]; rfl, lr _ _ _ _, fun ρ hp hr => ⟨c.bx b, vs, ty, hV.2.2 cs hb, ?_, h2, g3 ρ (fun p jZ => hp p (List.mem_append_right _ jZ)) hr⟩⟩
           · rcases List.mem_cons.1 hl with rfl | hl
             · rfl
             · exact g2 l hl
           · exact (Cz.jI h1).trans (hp (.box b, .rE k) (by simp [iU]))
     | _ => cases he
   | agg _ => cases he
   | lU _ => cases he
 | bD ps => cases he
theorem uQ {w0 : World} {mu : Mu} {c : Cz} {st : St} {a : Act} {w : World} (h : Rel w0 mu c st a w) : (l : List (Option AP)) → (k : Nat) → {x : aq (aw l)} → {u : List Lb} → {r : List (Nat × Nat)} → l9 st k l = some (x, u, r) →
   (∀ l ∈ u, l.real = true) ∧ ∃ tb : List (Lb × Lb), tb.map (·.1) = u ∧ (∀ p ∈ tb, p.2.jD = true) ∧ ∀ ρ : Lb → Option Lb, (∀ p ∈ tb, ρ p.1 = some p.2) → (∀ p ∈ r, ρ (.sp p.1 p.2) = none) → zx (c.map ρ) w c.lc a k (ca l x)
 | [], k, x, u, r, he => by
   have he : some ((), ([] : List Lb), ([] : List (Nat × Nat))) = some (x, u, r) := he; injection he with he; injection he with _ e2; injection e2 with e2 e3; subst e2 e3; exact ⟨by simp, [], rfl, by simp, fun ρ _ _ i av hi => by simp [ca] at hi⟩
 | none :: l, k, x, u, r, he => by
   obtain ⟨g1, tb, g2, g3, g4⟩ := uQ h l (k + 1) he; refine ⟨g1, tb, g2, g3, fun ρ hp hr i av hi => ?_⟩
   cases i with
   | zero => simp [ca] at hi
   | succ i =>
     have := g4 ρ hp hr i av (by simpa [ca] using hi)
     rwa [show k + 1 + i = k + (i + 1) by omega] at this
 | some p :: l, k, x, u, r, he => by
   unfold l9 at he
   cases h1 : l9 st (k + 1) l with
   | none => simp [h1] at he
   | some q1 =>
     obtain ⟨y, us, rs⟩ := q1; simp only [h1] at he
     cases h2 : Al st k p (aw l) (bW st k) y with
     | none => simp [h2] at he
     | some q2 =>
       obtain ⟨x1, u1, r1⟩ := q2; simp only [h2] at he; injection he with he; injection he with e1 e2; injection e2 with e2 e3; subst e1 e2 e3; obtain ⟨g1, tb, g2, g3, g4⟩ := uQ h l (k + 1) h1; obtain ⟨a1, a2, ta, a3, a4, a5⟩ := yr h k (h.eL k) h2; refine ⟨fun l' hl => ?_, ta ++ tb, by simp [a3, g2], fun p hp => ?_, fun ρ hp hr i av hi => ?_⟩
       · rcases List.mem_append.1 hl with hl | hl
         · exact a2 l' hl
         · exact g1 l' hl
       · rcases List.mem_append.1 hp with hp | hp
         · exact a4 p hp
         · exact g3 p hp
       · cases i with
         | zero =>
           have hi : some (some (p.av (aw l) x1).1) = some (some av) := hi; simp only [Option.some.injEq] at hi; subst hi; exact a5 ρ (fun p jZ => hp p (List.mem_append_left _ jZ)) (fun p jZ => hr p (List.mem_append_left _ jZ))
         | succ i =>
           have hi : (ca l (p.av (aw l) x1).2)[i]? = some (some av) := hi; rw [a1] at hi; have := g4 ρ (fun p jZ => hp p (List.mem_append_right _ jZ)) (fun p jZ => hr p (List.mem_append_right _ jZ)) i av hi
           rwa [show k + 1 + i = k + (i + 1) by omega] at this
end Go.TM
namespace Go.TM
open Go Go.RowKit
def NL (L : List (Option AV)) (lc : Nat → Nat → Loc) (a : Act) : KO → Prop
 | .arr i j g W n l => g = 1 ∧ i < L.length ∧ ∀ av, L[i]? = some (some av) → (∃ A, av = .io A ∧ (j = 0 → A.r.width = W ∧ A.xs.length = n ∧ lc i 0 = l)) ∨ ∃ os, av = .bD os ∧ ∀ A, os[j]? = some (.own A) → A.r.width = W ∧ A.xs.length = n ∧ lc i j = l
 | .box i g mD => g = 1 ∧ i < L.length ∧ ∀ os, L[i]? = some (some (.box os)) → a.eval (.tmp i) = .pointer (some ⟨mD, 0, none⟩)
def NM : Lb → Lb
 | .bK i j => .sp i j
 | .rE i => .box i
 | l => l
structure NN (c : Cz) (w : World) (k : Nat) (av : Option AV) (u : Value) (lio : Nat → Loc) (mD : Nat) (lcs : Nat → Loc) : Prop where
 arr : ∀ j A, nth (cS k av).aJ j = some (some A) → ∃ v, OwnAt c w (.bK k j) (lcs j) A v
 reg : ∀ (c2 : Cz) (gm : St), (∀ b, c.ok b → c2.ok b) → c2.bx k = mD → c2.lc k = lcs → nth gm k = some (cS k av) → eo c2 gm w (cS k av).v u
 box : ∀ cs, (cS k av).box = some cs → u = .pointer (some ⟨mD, 0, none⟩) ∧ c.own mD = some (.rE k) ∧ ∃ vs ty, w.heap[mD]? = some (.cells vs ty (0, 0)) ∧
   ∀ (c2 : Cz) (gm : St), (∀ b, c.ok b → c2.ok b) → c2.lc k = lcs → nth gm k = some (cS k av) → eK c2 gm w cs vs.toList
 io : ∀ A, av = some (.io A) → lcs 0 = lio 0
 bD : ∀ os, av = some (.bD os) → lcs = lio
theorem pt {st : St} {k j : Nat} {av : Option AV} {A : gr} (h : nth st k = some (cS k av)) (hA : aQ st k j 1 = some A) : nth (cS k av).aJ j = some (some A) := by
 obtain ⟨sl, h1, _, h3⟩ := bc hA; rw [h] at h1; cases h1; exact h3
theorem pv {st : St} {k : Nat} {av : Option AV} (h : nth st k = some (cS k av)) : cW st k = 1 := by
 unfold cW; rw [h]
 cases av with
 | none => rfl
 | some av => cases av with
   | val agg os => cases agg <;> rfl
   | io A => rfl
   | box os => rfl
   | bD os => rfl
theorem Ed {st : St} {k : Nat} {av : Option AV} (h : nth st k = some (cS k av)) : fL st k = 1 := by
 unfold fL; rw [h]
 cases av with
 | none => rfl
 | some av => cases av with
   | val agg os => cases agg <;> rfl
   | io A => rfl
   | box os => rfl
   | bD os => rfl
theorem yt : (os : List OV) → (j : Nat) → {A : gr} → nth (aX os) j = some (some A) → os[j]? = some (.own A)
 | [], _, _, h => by simp [aX] at h
 | o :: os, 0, A, h => by
   simp only [aX, nth, Option.some.injEq] at h
   cases o with
   | own B => injection h with h; subst h; rfl
   | _ => cases h
 | o :: os, j + 1, A, h => by
   have := yt os j (A := A) h; simpa using this
theorem Ee {d g : Nat} : (os : List OV) → (j k : Nat) → (o : OV) → os[k]? = some o → ∃ x, aV d g (j + k) [o] = [x] ∧ (aV d g j os)[k]? = some x
 | [], _, _, _, h => by simp at h
 | o :: os, j, 0, o', h => by
   simp only [List.getElem?_cons_zero, Option.some.injEq] at h; subst h
   cases o <;> exact ⟨_, rfl, rfl⟩
 | o :: os, j, k + 1, o', h => by
   obtain ⟨x, h1, h2⟩ := Ee (d := d) (g := g) os (j + 1) k o' (by simpa using h); rw [show j + 1 + k = j + (k + 1) by omega] at h1; refine ⟨x, h1, ?_⟩
   cases o <;> simpa [aV] using h2
theorem BY {d g : Nat} : (os : List OV) → (j : Nat) → (aV d g j os).length = os.length
 | [], _ => rfl
 | o :: os, j => by cases o <;> simp [aV, BY os (j + 1)]
theorem bd.NO {c : Cz} {w : World} {f : Nat → Lb} {os : List OV} {vs : List Value} (h : bd c w f 0 os vs) (lcs : Nat → Loc) (ho : ∀ k A u, os[k]? = some (.own A) → vs[k]? = some u → ∃ l, OwnAt c w l (lcs k) A u)
   (c2 : Cz) (gm : St) (d g : Nat) (fF : ∀ b, c.ok b → c2.ok b) (gz : ∀ k, c2.lc d k = lcs k) (zq : ∀ k A, aQ gm d k g = some A → os[k]? = some (.own A)) (hg : g ≤ cW gm d) : eK c2 gm w (aV d g 0 os) vs := by
 obtain ⟨h1, h2⟩ := bd.NK os 0 vs h; refine ⟨by rw [BY, h1], fun k x v hx hv => ?_⟩; have bX : k < os.length := by rw [← h1]; exact (List.getElem?_eq_some_iff.1 hv).1
 have Iw : os[k]? = some os[k] := List.getElem?_eq_getElem bX; obtain ⟨y, q1, q2⟩ := Ee (d := d) (g := g) os 0 k _ Iw; rw [q2] at hx
 cases hx
 have hL := h2 k _ v Iw hv; rw [Nat.zero_add] at q1; generalize os[k] = o at *
 cases o with
 | own A =>
   simp only [aV, List.cons.injEq, and_true] at q1; subst q1; obtain ⟨l, hO⟩ := ho k A v Iw hv; refine ⟨hO.1, hg, fun A' eb => ?_⟩; have := zq k A' eb; rw [Iw] at this
   cases this
   rw [gz]; exact hO.2.1
 | shr r xs =>
   simp only [aV, List.cons.injEq, and_true] at q1; subst q1; obtain ⟨v', l, e, h3, _⟩ := hL
   cases e
   exact bL.stays ⟨Nat.le_refl _, fun _ _ _ => rfl, fun b _ hb => fF b hb⟩ _ _ _ h3
 | kC r xs =>
   simp only [aV, List.cons.injEq, and_true] at q1; subst q1; obtain ⟨v', l, e, ⟨b, oo, e1, e2, e3, e4⟩, _⟩ := hL
   cases e
   exact ⟨b, oo, e1, e2, fF b e3, fun x hx => cq.stays ⟨Nat.le_refl _, fun _ _ _ => rfl, fun b _ hb => fF b hb⟩ _ _ _ _ rfl (e4 x hx)⟩
 | fn fg r xs =>
   simp only [aV, List.cons.injEq, and_true] at q1; subst q1; obtain ⟨v', l, e, h3, _⟩ := hL
   cases e
   exact h3.stays ⟨Nat.le_refl _, fun _ _ _ => rfl, fun b _ hb => fF b hb⟩
 | _ =>
   simp only [aV, List.cons.injEq, and_true] at q1; subst q1; obtain ⟨l, e, _⟩ := hL
   cases e
   rfl
theorem PV {c : Cz} {w : World} {k : Nat} {lio : Nat → Loc} {av : Option AV} {u : Value} (h : ∀ v, av = some v → qT c w k lio v u) : ∃ mD lcs, NN c w k av u lio mD lcs := by
 cases av with
 | none => exact ⟨0, fun _ => .nil, fun j A hA => by simp [cS, Sl.blank] at hA, fun c2 gm _ _ _ _ => trivial, fun cs sy => by simp [cS, Sl.blank] at sy, fun A hA => (by cases hA), fun A hA => (by cases hA)⟩
 | some av =>
   have h := h av rfl
   cases av with
   | val agg os =>
     cases agg with
     | true =>
       obtain ⟨vs, rfl, hl⟩ := h; obtain ⟨lcs, g1, g2⟩ := bd.cells os 0 _ hl; simp only [Nat.zero_add] at g1 g2; refine ⟨0, lcs, fun j A hA => g1 j A hA, fun c2 gm fF _ gz hn => ⟨vs, rfl, ?_⟩, fun cs sy => by simp [cS] at sy, fun A hA => (by cases hA), fun A hA => (by cases hA)⟩; exact g2 c2 gm k 1 fF (fun j _ => by rw [gz]) (fun j A _ hA => pt hn hA) (by rw [pv hn]; exact Nat.le_refl _)
     | false =>
       have hl : bd c w (.bK k) 0 os [u] := h; obtain ⟨lcs, g1, g2⟩ := bd.cells os 0 _ hl; simp only [Nat.zero_add] at g1 g2; refine ⟨0, lcs, fun j A hA => g1 j A hA, fun c2 gm fF _ gz hn => ?_, fun cs sy => by simp [cS] at sy, fun A hA => (by cases hA), fun A hA => (by cases hA)⟩; have hR := g2 c2 gm k 1 fF (fun j _ => by rw [gz]) (fun j A _ hA => pt hn hA) (by rw [pv hn]; exact Nat.le_refl _); show eo c2 gm w (match aV k 1 0 os with | [c] => .one c | _ => .one .bad) u; have h1 := hR.1
       cases hc : aV k 1 0 os with
       | nil => trivial
       | cons x l => cases l with
         | nil => rw [hc] at hR; exact hR.2 0 x u rfl rfl
         | cons _ _ => trivial
   | io A =>
     have hO : OwnAt c w (.bK k 0) (lio 0) A u := h; refine ⟨0, lio, fun j A' eb => ?_, fun c2 gm fF _ gz hn => ?_, fun cs sy => by simp [cS] at sy, fun A hA => rfl, fun A hA => by cases hA⟩
     · cases j with
       | zero => simp [cS, nth] at eb; subst eb; exact ⟨u, hO⟩
       | succ j => simp [cS, nth] at eb
     · refine ⟨hO.1, by rw [pv hn]; exact Nat.le_refl _, fun A' eb => ?_⟩; have := pt hn eb; simp [cS, nth] at this; subst this; rw [gz]; exact hO.2.1
   | bD os =>
     obtain ⟨vs, rfl, hl, Nw⟩ := h; have eY : ∀ j A u, os[j]? = some (.own A) → vs.toList[j]? = some u → OwnAt c w (.bK k j) (lio j) A u := fun j A u h1 h2 => Nw j _ u h1 h2
     obtain ⟨n1, _⟩ := bd.NK os 0 _ hl; refine ⟨0, lio, fun j A' eb => ?_, fun c2 gm fF _ gz hn => ⟨vs, rfl, ?_⟩, fun cs sy => by simp [cS] at sy, fun A hA => (by cases hA), fun yc _ => rfl⟩
     · have hj := yt os j eb; have bX : j < vs.toList.length := by rw [n1]; exact (List.getElem?_eq_some_iff.1 hj).1
       exact ⟨_, eY j A' _ hj (List.getElem?_eq_getElem bX)⟩
     · exact bd.NO hl lio (fun j A u h1 h2 => ⟨_, eY j A u h1 h2⟩) c2 gm k 1 fF (fun j => by rw [gz]) (fun j A hA => yt os j (pt hn hA)) (by rw [pv hn]; exact Nat.le_refl _)
   | box os =>
     obtain ⟨mD, vs, ty, h1, h2, h3, hl⟩ := h; obtain ⟨lcs, g1, g2⟩ := bd.cells os 0 _ hl; simp only [Nat.zero_add] at g1 g2; refine ⟨mD, lcs, fun j A hA => g1 j A hA, fun c2 gm fF AT gz hn => ⟨by rw [h1]; rfl, by rw [Ed hn]; exact Nat.le_refl _, fun cs _ => by rw [AT]; exact h1⟩, fun cs sy => ⟨h1, h2, vs, ty, h3, fun c2 gm fF gz hn => ?_⟩, fun A hA => (by cases hA), fun A hA => (by cases hA)⟩; simp only [cS, Option.some.injEq] at sy; subst sy; exact g2 c2 gm k 1 fF (fun j _ => by rw [gz]) (fun j A _ hA => pt hn hA) (by rw [pv hn]; exact Nat.le_refl _)
theorem Rel.Ki {w0 : World} {mu : Mu} {c : Cz} {a : Act} {w : World} {L : List (Option AV)} {lc : Nat → Nat → Loc} (hb : zo w0 mu c w) (hd : a.defers = []) (hL : zx c w lc a 0 L) (hA : ∀ p ∈ mu.an, NL L lc a p) : ∃ c', Rel w0 mu c' (mE 0 L) a w := by
 have Nz : ∀ k, ∃ q : Nat × (Nat → Loc), NN c w k ((L[k]?).getD none) (a.eval (.tmp k)) (lc k) q.1 q.2 := by
   intro k; obtain ⟨mD, lcs, h⟩ := PV (c := c) (w := w) (k := k) (lio := lc k) (av := (L[k]?).getD none) (u := a.eval (.tmp k)) (fun v hv => by
     have := hL k v (by
       cases hq : L[k]? with
       | none => rw [hq] at hv; cases hv
       | some o => rw [hq] at hv; simp at hv; rw [hv])
     simpa using this)
   exact ⟨(mD, lcs), h⟩
 obtain ⟨q, hq⟩ := Classical.axiomOfChoice Nz; have hn : ∀ k, nth (mE 0 L) k = (L[k]?).map (cS k) := fun k => by have := Eb L 0 k; simpa using this
 have KV : ∀ k sl, nth (mE 0 L) k = some sl → ∃ o, L[k]? = some o ∧ sl = cS k o ∧ nth (mE 0 L) k = some (cS k ((L[k]?).getD none)) ∧ (L[k]?).getD none = o := by
   intro k sl h; rw [hn] at h
   cases ho : L[k]? with
   | none => rw [ho] at h; cases h
   | some o =>
     rw [ho] at h
     cases h
     refine ⟨o, rfl, rfl, ?_, rfl⟩; rw [hn, ho]; rfl
 let c' := c.dZ NM (fun k => (q k).1) (fun k => (q k).2)
 have fF : ∀ b, c.ok b → c'.ok b := fun b hb => Cz.kV.2 hb
 refine ⟨c', fun t => ?_, fun s sl cs hs AT => ?_, fun s j sl A hs eb => ?_, fun b l hl => ?_, fun b bX hl => hb.free b bX (by simpa [c', Cz.dZ] using hl), hb.kept, hb.old, hd, fun p hp => ?_⟩
 · cases hs : nth (mE 0 L) t with
   | none =>
     have : bW (mE 0 L) t = .one .bad := by unfold bW; rw [hs]
     rw [this]; trivial
   | some sl =>
     obtain ⟨o, h1, rfl, h3, h4⟩ := KV t sl hs; have : bW (mE 0 L) t = (cS t ((L[t]?).getD none)).v := by unfold bW; rw [h3]
     rw [this]; exact (hq t).reg c' (mE 0 L) fF rfl rfl h3
 · obtain ⟨o, h1, rfl, h3, h4⟩ := KV s sl hs; rw [← h4] at AT; obtain ⟨g1, g2, vs, ty, g3, g4⟩ := (hq s).box cs AT; refine ⟨?_, vs, ty, g3, g4 c' (mE 0 L) fF rfl h3⟩; show (c.own (q s).1).map NM = _; rw [g2]; rfl
 · obtain ⟨o, h1, rfl, h3, h4⟩ := KV s sl hs; rw [← h4] at eb; obtain ⟨v, hv⟩ := (hq s).arr j A eb; exact hv.arr rfl rfl
 · simp only [c', Cz.dZ, Option.map_eq_some_iff] at hl; obtain ⟨k, hk, e⟩ := hl; obtain ⟨h1, h2⟩ := hb.owned b k hk; refine ⟨h1, h2.imp (fun e2 => ?_) id⟩; subst e2; rw [← e]; rfl
 · have hf := hA p hp
   cases p with
   | arr i j g W n l =>
     obtain ⟨rfl, hi, GC⟩ := hf; have hs : nth (mE 0 L) i = some (cS i ((L[i]?).getD none)) := by rw [hn]; simp [List.getElem?_eq_getElem hi]
     refine ⟨by rw [pv hs]; exact Nat.le_refl _, fun A eb => ?_⟩; have h3 := pt hs eb
     cases ho : L[i]? with
     | none => rw [ho] at h3; simp [cS, Sl.blank] at h3
     | some o => cases o with
       | none => rw [ho] at h3; simp [cS, Sl.blank] at h3
       | some av =>
         rcases GC av ho with ⟨A0, rfl, h5⟩ | ⟨os, rfl, h5⟩
         case inr =>
           rw [ho] at h3; obtain ⟨e1, e2, e3⟩ := h5 A (yt os j h3); refine ⟨e1, e2, ?_⟩; rw [← e3]; have := (hq i).bD os (by rw [ho]; rfl); show (q i).2 j = lc i j; rw [this]
         rw [ho] at h3
         cases j with
         | zero =>
           simp [cS, nth] at h3; subst h3; obtain ⟨e1, e2, e3⟩ := h5 rfl; exact ⟨e1, e2, ((hq i).io A0 (by rw [ho]; rfl)).trans e3⟩
         | succ j => simp [cS, nth] at h3
   | box i g mD =>
     obtain ⟨rfl, hi, GC⟩ := hf; have hs : nth (mE 0 L) i = some (cS i ((L[i]?).getD none)) := by rw [hn]; simp [List.getElem?_eq_getElem hi]
     refine ⟨by rw [Ed hs]; exact Nat.le_refl _, fun cs sy => ?_⟩; obtain ⟨sl, k1, k2, k3⟩ := gw sy; rw [hs] at k1; cases k1; obtain ⟨g1, _⟩ := (hq i).box cs k3; have ri : ∃ os, L[i]? = some (some (.box os)) := by
       cases ho : L[i]? with
       | none => rw [ho] at k3; simp [cS, Sl.blank] at k3
       | some o => cases o with
         | none => rw [ho] at k3; simp [cS, Sl.blank] at k3
         | some av => cases av with
           | val agg os => rw [ho] at k3; cases agg <;> simp [cS] at k3
           | io A => rw [ho] at k3; simp [cS] at k3
           | bD os => rw [ho] at k3; simp [cS] at k3
           | box os => exact ⟨os, rfl⟩
     obtain ⟨os, ri⟩ := ri; have := GC os ri; rw [this] at g1; injection g1 with g1; injection g1 with g1; injection g1 with g1; exact g1.symm
end Go.TM
namespace Go.TM
open Go Go.RowKit
inductive Src where
 | tmp (t : Nat)
 | cell (t : Nat)
 | ptr (t : Nat)  -- H3 struct behind a pointer, afR is jD back
structure RP where
 src : Src
 agg : Bool
 ps : List OP
def cn : List RP → RT → RT
 | [], t => t
 | r :: rs, t => kO r.ps (cn rs t)
def pP : List OP → RT → RT
 | [], t => t
 | .own r _ :: ps, t => .cons (.sl r) (pP ps t)
 | .int _ :: ps, t => pP ps t
 | .bool :: ps, t => pP ps t
 | .str :: ps, t => pP ps t
 | .shr _ :: ps, t => pP ps t
 | .kC _ :: ps, t => pP ps t
 | .fn _ _ :: ps, t => pP ps t
def bl : List AP → RT
 | [] => .nil
 | .val _ _ :: l => bl l
 | .io r _ :: l => .cons (.sl r) (bl l)
 | .box _ ps :: l => kO ps (bl l)
 | .bD ps :: l => pP ps (bl l)
def RP.cells (st : St) (r : RP) : Option (List CV) :=
 match r.src with
 | .tmp t => match bW st t with
   | .agg cs => bif r.agg then some cs else none
   | .one c => bif r.agg then none else some [c]
   | .lU _ => none
 | .cell t => match bW st t with
   | .one (.ptr b g off) => bif Nat.beq off 0 then dx st b g else none
   | _ => none
 | .ptr t => match bW st t with
   | .one (.ptr b g off) => bif Nat.beq off 0 then dx st b g else none
   | _ => none
def RP.VX (st : St) (r : RP) : List (Option Lb) :=
 match r.src with
 | .ptr t => (match bW st t with | .one (.ptr b _ _) => [some (.box b)] | _ => [])
 | _ => []
def BZ (st : St) : (rs : List RP) → (t : RT) → aq t → Option (aq (cn rs t) × List (Option Lb) × List (Nat × Nat))
 | [], _, y => some (y, [], [])
 | r :: rs, t, y => (r.cells st).bind fun cs => (BZ st rs t y).bind fun q => (j2 st r.ps (cn rs t) cs q.1).map fun p => (p.1, r.VX st ++ (p.2.1 ++ q.2.1), p.2.2 ++ q.2.2)
def kP (st : St) (i : Nat) : (j : Nat) → (ps : List OP) → (t : RT) → aq t → Option (aq (pP ps t) × List Lb)
 | _, [], _, y => some (y, [])
 | j, .own r d :: ps, t, y => (kP st i (j + 1) ps t y).bind fun q => (aQ st i j 1).bind fun A => bif A.own && A.md.is d then (bA r A.xs).map fun xs => ((xs, q.1), .sp i j :: q.2) else none
 | j, .int _ :: ps, t, y => kP st i (j + 1) ps t y
 | j, .bool :: ps, t, y => kP st i (j + 1) ps t y
 | j, .str :: ps, t, y => kP st i (j + 1) ps t y
 | j, .shr _ :: ps, t, y => kP st i (j + 1) ps t y
 | j, .kC _ :: ps, t, y => kP st i (j + 1) ps t y
 | j, .fn _ _ :: ps, t, y => kP st i (j + 1) ps t y
def rn (st : St) : (i : Nat) → (ps : List AP) → Option (aq (bl ps) × List Lb × List (Nat × Nat))
 | _, [] => some ((), [], [])
 | i, .val _ _ :: l => rn st (i + 1) l
 | i, .io r d :: l => (rn st (i + 1) l).bind fun q => (Al st i (.io r d) (bl l) (.one (.ref i 0 1 .full)) q.1).map fun p => (p.1, p.2.1 ++ q.2.1, p.2.2 ++ q.2.2)
 | i, .box _ ps :: l => (rn st (i + 1) l).bind fun q => (Al st i (.box true ps) (bl l) (.one (.ptr i 1 0)) q.1).map fun p => (p.1, p.2.1 ++ q.2.1, p.2.2 ++ q.2.2)
 | i, .bD ps :: l => (rn st (i + 1) l).bind fun q => (kP st i 0 ps (bl l) q.1).map fun p => (p.1, p.2 ++ q.2.1, q.2.2)
def B3 (rs : List RP) (ps : List AP) : Ex → St → Option (aq (cn rs (bl ps)))
 | .exit _, _ => none
 | _, st => (rn st 0 ps).bind fun x => (BZ st rs (bl ps) x.1).bind fun q => bif sr (bI q.2.1 ++ x.2.1) && apart (bI q.2.1 ++ x.2.1) (q.2.2 ++ x.2.2) then some q.1 else none
def RP.rv (r : RP) (os : List OV) : RV :=
 match r.src with
 | .ptr _ => .ptr os
 | _ => match r.agg, os with
   | false, [o] => .one o
   | _, os => .agg os
def ft : (rs : List RP) → (t : RT) → aq (cn rs t) → List RV × aq t
 | [], _, x => ([], x)
 | r :: rs, t, x => (r.rv (dA r.ps (cn rs t) x).1 :: (ft rs t (dA r.ps (cn rs t) x).2).1, (ft rs t (dA r.ps (cn rs t) x).2).2)
def lF : (ps : List OP) → (t : RT) → aq (pP ps t) → List (Option gr) × aq t
 | [], _, x => ([], x)
 | .own r d :: ps, t, x => (some { r := r, own := true, xs := x.1, md := d } :: (lF ps t x.2).1, (lF ps t x.2).2)
 | .int _ :: ps, t, x => (none :: (lF ps t x).1, (lF ps t x).2)
 | .bool :: ps, t, x => (none :: (lF ps t x).1, (lF ps t x).2)
 | .str :: ps, t, x => (none :: (lF ps t x).1, (lF ps t x).2)
 | .shr _ :: ps, t, x => (none :: (lF ps t x).1, (lF ps t x).2)
 | .kC _ :: ps, t, x => (none :: (lF ps t x).1, (lF ps t x).2)
 | .fn _ _ :: ps, t, x => (none :: (lF ps t x).1, (lF ps t x).2)
def lx : (ps : List AP) → aq (bl ps) → List XV
 | [], _ => []
 | .val _ _ :: l, x => lx l x
 | .io r d :: l, x => .io { r := r, own := true, xs := x.1, md := d } :: lx l x.2
 | .box _ ps :: l, x => .box (dA ps (bl l) x).1 :: lx l (dA ps (bl l) x).2
 | .bD ps :: l, x => .bD (lF ps (bl l) x).1 :: lx l (lF ps (bl l) x).2
def j3 (ps : List AP) (rs : List RP) (t : aq (aw (ps.map some)) → Option (aq (cn rs (bl ps)))) : ud := fun dC =>
 match eM ps dC with
 | some x => some { r := cn rs (bl ps), o := t x, res := fun y => { outs := (ft rs (bl ps) y).1, exts := lx ps (ft rs (bl ps) y).2 } }
 | none => none
theorem iQ {st : St} {i : Nat} : (ps : List OP) → (j : Nat) → (t : RT) → (y : aq t) → {x : aq (pP ps t)} → {u : List Lb} → kP st i j ps t y = some (x, u) → (lF ps t x).2 = y ∧ (∀ l ∈ u, ∃ k, l = .sp i k) ∧
   ∀ (k : Nat) (r : RT) (d : Md), ps[k]? = some (.own r d) → ∃ A xs, aQ st i (j + k) 1 = some A ∧ A.own = true ∧ A.md = d ∧ bA r A.xs = some xs ∧ nth (lF ps t x).1 k = some (some { r := r, own := true, xs := xs, md := d }) ∧ .sp i (j + k) ∈ u
 | [], j, t, y, x, u, h => by
   injection h with h; injection h with e1 e2; subst e1 e2; exact ⟨rfl, by simp, fun k r d hk => by simp at hk⟩
 | .own r d :: ps, j, t, y, x, u, h => by
   unfold kP at h; obtain ⟨q, hq, h⟩ := Option.bind_eq_some_iff.1 h; obtain ⟨A, hA, h⟩ := Option.bind_eq_some_iff.1 h; obtain ⟨ho, h⟩ := aH h; rw [Bool.and_eq_true] at ho; obtain ⟨xs, Q8, h⟩ := Option.map_eq_some_iff.1 h; injection h with e1 e2; subst e1 e2; obtain ⟨z, us⟩ := q; obtain ⟨g1, g2, g3⟩ := iQ ps (j + 1) t y hq; refine ⟨g1, fun l hl => ?_, fun k r' d' hk => ?_⟩
   · rcases List.mem_cons.1 hl with rfl | hl
     · exact ⟨j, rfl⟩
     · exact g2 l hl
   · cases k with
     | zero =>
       simp only [List.getElem?_cons_zero, Option.some.injEq, OP.own.injEq] at hk; obtain ⟨rfl, rfl⟩ := hk; exact ⟨A, xs, hA, ho.1, Md.lg.1 ho.2, Q8, rfl, List.mem_cons_self⟩
     | succ k =>
       obtain ⟨A', Wm, k1, k2, kd, k3, k4, k5⟩ := g3 k r' d' (by simpa using hk); rw [show j + 1 + k = j + (k + 1) by omega] at k1 k5; exact ⟨A', Wm, k1, k2, kd, k3, k4, List.mem_cons_of_mem _ k5⟩
 | .int _ :: ps, j, t, y, x, u, h => jv (iQ ps (j + 1) t y h) (by simp) (fun k => rfl)
 | .bool :: ps, j, t, y, x, u, h => jv (iQ ps (j + 1) t y h) (by simp) (fun k => rfl)
 | .str :: ps, j, t, y, x, u, h => jv (iQ ps (j + 1) t y h) (by simp) (fun k => rfl)
 | .shr _ :: ps, j, t, y, x, u, h => jv (iQ ps (j + 1) t y h) (by simp) (fun k => rfl)
 | .kC _ :: ps, j, t, y, x, u, h => jv (iQ ps (j + 1) t y h) (by simp) (fun k => rfl)
 | .fn _ _ :: ps, j, t, y, x, u, h => jv (iQ ps (j + 1) t y h) (by simp) (fun k => rfl)
where
 jv {st : St} {i j : Nat} {p : OP} {ps : List OP} {D : Type} {y z : D} {L L' : List (Option gr)} {u : List Lb} (h : z = y ∧ (∀ l ∈ u, ∃ k, l = .sp i k) ∧ ∀ (k : Nat) (r : RT) (d : Md), ps[k]? = some (.own r d) → ∃ A xs, aQ st i (j + 1 + k) 1 = some A ∧ A.own = true ∧ A.md = d ∧ bA r A.xs = some xs ∧ nth L k = some (some { r := r, own := true, xs := xs, md := d }) ∧ .sp i (j + 1 + k) ∈ u)
     (hp : ∀ r d, p ≠ .own r d) (hL : ∀ k, nth L' (k + 1) = nth L k) : z = y ∧ (∀ l ∈ u, ∃ k, l = .sp i k) ∧ ∀ (k : Nat) (r : RT) (d : Md), (p :: ps)[k]? = some (.own r d) → ∃ A xs, aQ st i (j + k) 1 = some A ∧ A.own = true ∧ A.md = d ∧ bA r A.xs = some xs ∧ nth L' k = some (some { r := r, own := true, xs := xs, md := d }) ∧ .sp i (j + k) ∈ u := by
   obtain ⟨h1, h2, h3⟩ := h; refine ⟨h1, h2, fun k r d hk => ?_⟩
   cases k with
   | zero =>
     simp only [List.getElem?_cons_zero, Option.some.injEq] at hk; exact absurd hk (hp r d)
   | succ k =>
     obtain ⟨A', Wm, k1, k2, kd, k3, k4, k5⟩ := h3 k r d (by simpa using hk); rw [show j + 1 + k = j + (k + 1) by omega] at k1 k5; exact ⟨A', Wm, k1, k2, kd, k3, by rw [hL]; exact k4, k5⟩
theorem Ef {st : St} : (ps : List OP) → (t : RT) → (cs : List CV) → (y : aq t) → {x : aq (kO ps t)} → {u : List (Option Lb)} → {r : List (Nat × Nat)} → j2 st ps t cs y = some (x, u, r) → u.length = ps.length ∧ cs.length = ps.length ∧ (dA ps t x).1.length = ps.length
 | [], t, [], y, x, u, r, h => by
   injection h with h; injection h with e1 e2; injection e2 with e2 e3; subst e1 e2 e3; exact ⟨rfl, rfl, rfl⟩
 | [], t, _ :: _, y, x, u, r, h => by simp [j2] at h
 | _ :: _, t, [], y, x, u, r, h => by simp [j2] at h
 | p :: ps, t, c :: cs, y, x, u, r, h => by
   unfold j2 at h
   cases hc : fq st p.mB c with
   | none => simp [hc] at h
   | some q1 =>
     obtain ⟨o, u1, r1⟩ := q1
     cases hq : j2 st ps t cs y with
     | none => simp [hc, hq] at h
     | some q2 =>
       obtain ⟨z, us, rs⟩ := q2; simp only [hc, hq] at h
       cases ho : pO p o with
       | none => simp [ho] at h
       | some a1 =>
         simp only [ho] at h; injection h with h; injection h with e1 e2; injection e2 with e2 e3; subst e1 e2 e3; obtain ⟨g1, g2, g3⟩ := Ef ps t cs y hq; exact ⟨by simp [g1], by simp [g2], by simp [dA, g3]⟩
def NP (T : kh) (fr : Array Value) : ResultVar → RP → Prop
 | .tmp t, r => r.src = .tmp t ∨ r.src = .ptr t
 | .cell t ty, r => r.src = .cell t ∧ T.cells ty = some r.ps.length ∧ T.agg ty = r.agg
def B4 (tm : Array Value) : ResultVar → Sem Value
 | .tmp t => pure (tm.getD t undef)
 | .cell a t => do loadVar t (← asAddr (tm.getD a undef))
theorem RP.NQ {P : Program} {T : kh} (hT : fG P T) {w0 : World} {mu : Mu} {c : Cz} {st : St} {a : Act} {w : World} (h : Rel w0 mu c st a w) {r : RP} {rv : ResultVar} (hr : NP T a.tmps rv r) {cs : List CV} (hc : r.cells st = some cs) (hn : cs.length = r.ps.length) :
   ∃ vs v, eK c st w cs vs ∧ (B4 a.tmps rv).run P w = .ok v w ∧ (((∀ t, r.src ≠ .ptr t) ∧ ((r.agg = true ∧ v = .agg vs.toArray) ∨ (r.agg = false ∧ (vs = [v])))) ∨
     (∃ t b ty us, r.src = .ptr t ∧ r.VX st = [some (.box b)] ∧ v = .pointer (some ⟨c.bx b, 0, none⟩) ∧ c.own (c.bx b) = some (.box b) ∧ w.heap[c.bx b]? = some (.cells us ty (0, 0)) ∧ vs = us.toList)) := by
 unfold RP.cells at hc
 cases rv with
 | tmp t =>
   rcases (hr : r.src = .tmp t ∨ r.src = .ptr t) with hs | hs
   case inr =>
     rw [hs] at hc; have rM := h.eL t; simp only at hc
     cases hv : bW st t with
     | lU _ => rw [hv] at hc; cases hc
     | agg l => rw [hv] at hc; cases hc
     | one x =>
       cases x with
       | ptr b g off =>
         rw [hv] at hc rM; obtain ⟨ho, hb⟩ := aH hc; have ho := Nat.eq_of_beq_eq_true ho; subst ho; obtain ⟨sl, k1, k2, k3⟩ := gw hb; obtain ⟨q1, vs, ty', q2, q3⟩ := h.boxes b sl cs k1 k3; have e : a.tmps.getD t undef = .pointer (some ⟨c.bx b, 0, none⟩) := rM.2.2 cs hb; refine ⟨vs.toList, a.tmps.getD t undef, q3, rfl, .inr ⟨t, b, ty', vs, hs, ?_, e, q1, q2, rfl⟩⟩; unfold RP.VX; rw [hs]; simp only [hv]
       | _ => rw [hv] at hc; cases hc
   rw [hs] at hc; have rM := h.eL t; simp only at hc
   cases hv : bW st t with
   | lU _ => rw [hv] at hc; cases hc
   | agg l =>
     rw [hv] at hc rM; obtain ⟨Kj, hc1⟩ := aH hc
     cases hc1
     obtain ⟨vs, e, hl⟩ := rM; exact ⟨vs.toList, a.eval (.tmp t), hl, rfl, .inl ⟨fun t' e' => (by rw [hs] at e'; cases e'), .inl ⟨Kj, by rw [e]⟩⟩⟩
   | one x =>
     rw [hv] at hc rM; simp only at hc
     cases Kj : r.agg with
     | true => rw [Kj] at hc; cases hc
     | false =>
       rw [Kj] at hc
       cases hc
       refine ⟨[a.eval (.tmp t)], a.eval (.tmp t), ⟨rfl, fun i y z hy hz => ?_⟩, rfl, .inl ⟨fun t' e' => (by rw [hs] at e'; cases e'), .inr ⟨rfl, rfl⟩⟩⟩
       cases i with
       | zero => simp at hy hz; subst hy hz; exact rM
       | succ i => simp at hy
 | cell t ty =>
   obtain ⟨hs, h1, h2⟩ := hr; rw [hs] at hc; have rM := h.eL t; simp only at hc
   cases hv : bW st t with
   | lU _ => rw [hv] at hc; cases hc
   | agg l => rw [hv] at hc; cases hc
   | one x =>
     cases x with
     | ptr b g off =>
       rw [hv] at hc rM; obtain ⟨ho, hb⟩ := aH hc; have ho := Nat.eq_of_beq_eq_true ho; subst ho; obtain ⟨sl, k1, k2, k3⟩ := gw hb; obtain ⟨q1, vs, ty', q2, q3⟩ := h.boxes b sl cs k1 k3; have e : a.tmps.getD t undef = .pointer (some ⟨c.bx b, 0, none⟩) := rM.2.2 cs hb; have Su : w.rangeAt (c.bx b) 0 vs.toList := by
         have := zX (off := 0) q2 vs.toList.length
         rwa [List.drop_zero, List.take_length] at this
       have hlen : vs.toList.length = r.ps.length := by rw [← q3.1, hn]
       have ns := qO (P := P) hT h1 w (c.bx b) 0 vs.toList Su hlen; refine ⟨vs.toList, valOf (T.agg ty) vs.toList, q3, ?_, .inl ⟨fun t' e' => (by rw [hs] at e'; cases e'), ?_⟩⟩
       · simp [B4, e, asAddr, Sem.run_bind, ns]
       · rw [h2]
         cases Kj : r.agg with
         | true => exact .inl ⟨rfl, by simp [valOf]⟩
         | false =>
           obtain ⟨_, _, _, Dh⟩ := hT.agg ty _ h1; have h3 := Dh (by rw [h2, Kj]); refine .inr ⟨rfl, ?_⟩; have : vs.toList.length = 1 := by rw [hlen, h3]
           cases xY : vs.toList with
           | nil => rw [xY] at this; cases this
           | cons x l => cases l with
             | nil => rfl
             | cons _ _ => rw [xY] at this; simp at this
     | _ => rw [hv] at hc; cases hc
end Go.TM
namespace Go.TM
open Go Go.RowKit
def wM (T : kh) (tm : Array Value) : List ResultVar → List RP → Prop
 | [], [] => True
 | v :: vs, r :: rs => NP T tm v r ∧ wM T tm vs rs
 | _, _ => False
theorem Eg {P : Program} {T : kh} (hT : fG P T) {w0 : World} {mu : Mu} {c : Cz} {st : St} {a : Act} {w : World} (h : Rel w0 mu c st a w) : (W2 : List ResultVar) → (rs : List RP) → wM T a.tmps W2 rs → (t : RT) → (y : aq t) → {x : aq (cn rs t)} → {u : List (Option Lb)} → {r : List (Nat × Nat)} → BZ st rs t y = some (x, u, r) →
   (ft rs t x).2 = y ∧ (ft rs t x).1.length = rs.length ∧ (∀ l ∈ bI u, l.real = true) ∧ ∃ vals : List Value, (W2.mapM (B4 a.tmps)).run P w = .ok vals w ∧ vals.length = W2.length ∧
     ∀ (ρ : Lb → Option Lb) (j : Nat), (∀ k l, nth u k = some (some l) → ρ l = some (.gM (j + k))) → (∀ p ∈ r, ρ (.sp p.1 p.2) = none) → kD (c.map ρ) w j (ft rs t x).1 vals
 | [], [], _, t, y, x, u, r, he => by
   injection he with he; injection he with e1 e2; injection e2 with e2 e3; subst e1 e2 e3; exact ⟨rfl, rfl, by simp [bI], [], rfl, rfl, fun _ _ _ _ => rfl⟩
 | [], _ :: _, hf, _, _, _, _, _, _ => hf.elim
 | _ :: _, [], hf, _, _, _, _, _, _ => hf.elim
 | rv :: W2, rr :: rs, hf, t, y, x, u, r, he => by
   unfold BZ at he; obtain ⟨cs, hc, he⟩ := Option.bind_eq_some_iff.1 he; obtain ⟨q, hq, he⟩ := Option.bind_eq_some_iff.1 he; obtain ⟨p, hp, he⟩ := Option.map_eq_some_iff.1 he; obtain ⟨x2, u2, r2⟩ := q; obtain ⟨x1, u1, r1⟩ := p; injection he with e1 e2; injection e2 with e2 e3; subst e1 e2 e3; obtain ⟨l1, l2, l3⟩ := Ef rr.ps _ cs _ hp; obtain ⟨vs, v, g1, g2, g3⟩ := RP.NQ hT h hf.1 hc l2; obtain ⟨k1, k2, k3, vals, k4, k5, k6⟩ := Eg hT h W2 rs hf.2 t y hq; have h0 := fun (ρ : Lb → Option Lb) (j : Nat) => uP h (ρ := ρ) (f := .gM) rr.ps (cn rs t) cs x2 vs j g1 hp
   have e0 := (h0 (fun _ => none) 0).1; refine ⟨?_, ?_, fun l hl => ?_, v :: vals, ?_, by simp [k5], fun ρ j hu hr => ?_⟩
   · show (ft rs t (dA rr.ps (cn rs t) x1).2).2 = y; rw [e0]; exact k1
   · show (ft rs t (dA rr.ps (cn rs t) x1).2).1.length + 1 = _; rw [e0, k2]; rfl
   · rw [gd] at hl; rcases List.mem_append.1 hl with hl | hl
     · unfold RP.VX at hl
       split at hl
       · split at hl
         · simp only [List.mem_singleton, Option.some.injEq] at hl; subst hl; rfl
         · cases hl
       · cases hl
     · rcases List.mem_append.1 hl with hl | hl
       · exact (h0 (fun _ => none) 0).2.1 l (gd.2 hl)
       · exact k3 l (gd.2 hl)
   · rw [List.mapM_cons]; simp [Sem.run_bind, g2, k4]
   · have e : (ft (rr :: rs) t x1).1 = rr.rv (dA rr.ps (cn rs t) x1).1 :: (ft rs t x2).1 := by
       show rr.rv (dA rr.ps (cn rs t) x1).1 :: (ft rs t (dA rr.ps (cn rs t) x1).2).1 = _; rw [e0]
     show kD (c.map ρ) w j (ft (rr :: rs) t x1).1 (v :: vals); rw [e]; rcases g3 with ⟨hnp, g3⟩ | ⟨tt, b, ty, us, NR, Sv, hv, eY, Nr, xY⟩
     · have Sv : rr.VX st = [] := by
         unfold RP.VX
         split
         · rename_i t' e'; exact absurd e' (hnp t')
         · rfl
       rw [Sv, List.nil_append] at hu; have hL := (h0 ρ j).2.2 (fun k l hk => hu k l (by
         rw [ln, if_pos (ER hk)]; exact hk)) (fun p hp => hr p (List.mem_append_left _ hp))
       have eP := k6 ρ (j + rr.ps.length) (fun k l hk => by
         have := hu (rr.ps.length + k) l (by rw [ln, l1, if_neg (by omega), Nat.add_sub_cancel_left]; exact hk); rw [Nat.add_assoc]; exact this) (fun p hp => hr p (List.mem_append_right _ hp))
       have hrv : ∀ os, rr.rv os = (match rr.agg, os with | false, [o] => RV.one o | _, os => RV.agg os) := by
         intro os; unfold RP.rv
         split
         · rename_i t' e'; exact absurd e' (hnp t')
         · rfl
       rcases g3 with ⟨ha, rfl⟩ | ⟨ha, rfl⟩
       · have er : rr.rv (dA rr.ps (cn rs t) x1).1 = .agg (dA rr.ps (cn rs t) x1).1 := by rw [hrv, ha]
         rw [er]; exact ⟨vs.toArray, vals, rfl, by simpa using hL, by rw [l3]; exact eP⟩
       · have hlen : cs.length = 1 := g1.1; have : (dA rr.ps (cn rs t) x1).1.length = 1 := by rw [l3, ← l2, hlen]
         cases ho : (dA rr.ps (cn rs t) x1).1 with
         | nil => rw [ho] at this; cases this
         | cons o l => cases l with
           | cons _ _ => rw [ho] at this; simp at this
           | nil =>
             have er : rr.rv [o] = .one o := by rw [hrv, ha]
             rw [er]; rw [ho] at hL; refine ⟨v, vals, rfl, hL, ?_⟩; rw [← l2, hlen] at eP; exact eP
     · rw [Sv] at hu; have hb := hu 0 (.box b) rfl; have hL := (h0 ρ (j + 1)).2.2 (fun k l hk => by
         have := hu (k + 1) l (by
           show nth (u1 ++ u2) k = _; rw [ln, if_pos (ER hk)]; exact hk)
         rwa [show j + (k + 1) = j + 1 + k by omega] at this) (fun p hp => hr p (List.mem_append_left _ hp))
       have eP := k6 ρ (j + (rr.ps.length + 1)) (fun k l hk => by
         have := hu (rr.ps.length + k + 1) l (by
           show nth (u1 ++ u2) (rr.ps.length + k) = _; rw [ln, l1, if_neg (by omega), Nat.add_sub_cancel_left]; exact hk)
         rwa [show j + (rr.ps.length + k + 1) = j + (rr.ps.length + 1) + k by omega] at this) (fun p hp => hr p (List.mem_append_right _ hp))
       have er : rr.rv (dA rr.ps (cn rs t) x1).1 = .ptr (dA rr.ps (cn rs t) x1).1 := by unfold RP.rv; rw [NR]
       rw [er]; subst xY; refine ⟨v, vals, rfl, ⟨c.bx b, us, ty, hv, ?_, Nr, hL⟩, by rw [l3]; exact eP⟩; rw [Nat.add_zero] at hb; exact (Cz.jI eY).trans hb
def E6 (mu : Mu) (lc : Nat → Nat → Loc) (i : Nat) (ps : List AP) (dC : List AV) (vs : List Value) : Prop :=
 ∀ (k : Nat) (p : AP) (av : AV) (v : Value), ps[k]? = some p → dC[k]? = some av → vs[k]? = some v → match p, av with
   | .io _ _, .io A => v.oneCell' = true ∧ iB (lc (i + k) 0) A.r.width 0 A.xs.length v ∧ KO.arr (i + k) 0 1 A.r.width A.xs.length (lc (i + k) 0) ∈ mu.an
   | .box _ _, .box _ => ∃ mD, v = .pointer (some ⟨mD, 0, none⟩) ∧ KO.box (i + k) 1 mD ∈ mu.an
   | .val _ _, .val _ _ => True
   | .bD qs, .bD os => ∃ us, v = .agg us ∧ ∀ j A, os[j]? = some (.own A) → (∃ r d, qs[j]? = some (.own r d)) ∧ ∃ u, us.toList[j]? = some u ∧ u.oneCell' = true ∧ iB (lc (i + k) j) A.r.width 0 A.xs.length u ∧ KO.arr (i + k) j 1 A.r.width A.xs.length (lc (i + k) j) ∈ mu.an
   | _, _ => False
theorem rP {w0 : World} {mu : Mu} {c : Cz} {st : St} {a : Act} {w : World} (h : Rel w0 mu c st a w) {lc : Nat → Nat → Loc} : (ps : List AP) → (i : Nat) → (dC : List AV) → (vs : List Value) → ps.length = dC.length → ps.length = vs.length → E6 mu lc i ps dC vs → {x : aq (bl ps)} → {u : List Lb} → {r : List (Nat × Nat)} → rn st i ps = some (x, u, r) →
   (∀ l ∈ u, l.real = true) ∧ ∃ tb : List (Lb × Lb), tb.map (·.1) = u ∧ (∀ p ∈ tb, p.2.jD = true) ∧ ∀ ρ : Lb → Option Lb, (∀ p ∈ tb, ρ p.1 = some p.2) → (∀ p ∈ r, ρ (.sp p.1 p.2) = none) → gO (c.map ρ) w lc i dC vs (lx ps x)
 | [], i, dC, vs, h1, h2, _, x, u, r, he => by
   injection he with he; injection he with e1 e2; injection e2 with e2 e3; subst e2 e3; have : dC = [] := by simpa using h1.symm
   subst this; exact ⟨by simp, [], rfl, by simp, fun _ _ _ => rfl⟩
 | p :: ps, i, [], vs, h1, _, _, _, _, _, _ => by simp at h1
 | p :: ps, i, _ :: _, [], _, h2, _, _, _, _, _ => by simp at h2
 | p :: ps, i, av :: dC, v :: vs, h1, h2, hl, x, u, r, he => by
   have wk : E6 mu lc (i + 1) ps dC vs := fun k p' Kg v' e1 e2 e3 => by
     have := hl (k + 1) p' Kg v' (by simpa using e1) (by simpa using e2) (by simpa using e3)
     rwa [show i + (k + 1) = i + 1 + k by omega] at this
   have R4 : ps.length = dC.length := by simpa using h1
   have ZJ : ps.length = vs.length := by simpa using h2
   have h0 := hl 0 p av v rfl rfl rfl
   cases p with
   | val agg qs =>
     cases av with
     | val PU os =>
       obtain ⟨g1, tb, g2, g3, g4⟩ := rP h ps (i + 1) dC vs R4 ZJ wk he; exact ⟨g1, tb, g2, g3, fun ρ hp hr => g4 ρ hp hr⟩
     | io _ => exact h0.elim
     | box _ => exact h0.elim
     | bD _ => exact h0.elim
   | io rr dd =>
     cases av with
     | val _ _ => exact h0.elim
     | box _ => exact h0.elim
     | bD _ => exact h0.elim
     | io A =>
       obtain ⟨q1, q2, q3⟩ := h0; simp only [Nat.add_zero] at q2 q3; unfold rn at he; obtain ⟨q, hq, he⟩ := Option.bind_eq_some_iff.1 he; obtain ⟨p, hp, he⟩ := Option.map_eq_some_iff.1 he; obtain ⟨x2, u2, r2⟩ := q; obtain ⟨x1, u1, r1⟩ := p; injection he with e1 e2; injection e2 with e2 e3; subst e1 e2 e3; obtain ⟨g1, tb, g2, g3, g4⟩ := rP h ps (i + 1) dC vs R4 ZJ wk hq; have PW := h.dR _ q3; have hV : eo c st w (.one (.ref i 0 1 .full)) v := ⟨q1, PW.1, fun A' eb => by
         obtain ⟨e1, e2, e3⟩ := PW.2 A' eb; rw [e1, e3]; show iB (lc i 0) A.r.width 0 A'.xs.length v; rw [e2]; exact q2⟩
       obtain ⟨a1, a2, ta, a3, a4, a5⟩ := yr h i hV hp; obtain ⟨A', eb, W3⟩ : ∃ A', aQ st i 0 1 = some A' ∧ ∃ xs, bA rr A'.xs = some xs ∧ x1.1 = xs := by
         have hp : (bif Nat.beq i i && (Nat.beq 0 0 && Nat.beq 1 1) then ((aQ st i 0 1).bind fun A => bif A.own && A.md.is dd then (bA rr A.xs).map fun xs => ((xs, x2), [Lb.sp i 0], ([] : List (Nat × Nat))) else none) else none) = some (x1, u1, r1) := hp; obtain ⟨_, hp1⟩ := aH hp; obtain ⟨A', eb, hp2⟩ := Option.bind_eq_some_iff.1 hp1; obtain ⟨_, hp3⟩ := aH hp2; obtain ⟨xs, Q8, e⟩ := Option.map_eq_some_iff.1 hp3; injection e with e _; exact ⟨A', eb, xs, Q8, by rw [← e]⟩
       obtain ⟨xs, Q8, ex⟩ := W3; obtain ⟨e1, e2, e3⟩ := PW.2 A' eb; refine ⟨fun l hl => ?_, ta ++ tb, by simp [a3, g2], fun p hp => ?_, fun ρ hp hr => ?_⟩
       · rcases List.mem_append.1 hl with hl | hl
         · exact a2 l hl
         · exact g1 l hl
       · rcases List.mem_append.1 hp with hp | hp
         · exact a4 p hp
         · exact g3 p hp
       · have VY := a5 ρ (fun p jZ => hp p (List.mem_append_left _ jZ)) (fun p jZ => hr p (List.mem_append_left _ jZ)); have eP := g4 ρ (fun p jZ => hp p (List.mem_append_right _ jZ)) (fun p jZ => hr p (List.mem_append_right _ jZ)); have VY : OwnAt (c.map ρ) w (.bK i 0) (c.lc i 0) { r := rr, own := true, xs := x1.1, md := dd } v := VY; rw [e3] at VY; obtain ⟨er, MH⟩ := a6 Q8; refine ⟨{ r := rr, own := true, xs := x1.1, md := dd }, lx ps x1.2, rfl, ?_, ?_, VY, ?_⟩
         · show rr.width = A.r.width; rw [← er]; exact e1
         · show List.length (x1.1 : List (aq rr)) = A.xs.length; rw [ex, MH, ← e2]
           cases er
           rfl
         · have : x1.2 = x2 := a1; rw [this]; exact eP
   | bD qs =>
     cases av with
     | val _ _ => exact h0.elim
     | io _ => exact h0.elim
     | box _ => exact h0.elim
     | bD os =>
       obtain ⟨us, rfl, q1⟩ := h0; simp only [Nat.add_zero] at q1; unfold rn at he; obtain ⟨q, hq, he⟩ := Option.bind_eq_some_iff.1 he; obtain ⟨p, hp, he⟩ := Option.map_eq_some_iff.1 he; obtain ⟨x2, u2, r2⟩ := q; obtain ⟨x1, u1⟩ := p; injection he with e1 e2; injection e2 with e2 e3; subst e1 e2 e3; obtain ⟨g1, tb, g2, g3, g4⟩ := rP h ps (i + 1) dC vs R4 ZJ wk hq; obtain ⟨a1, a2, a3⟩ := iQ qs 0 (bl ps) x2 hp
       let f : Lb → Lb × Lb := fun l => (l, match l with | .sp x y => .bK x y | l => l)
       refine ⟨fun l hl => ?_, u1.map f ++ tb, ?_, fun p hp => ?_, fun ρ hp hr => ?_⟩
       · rcases List.mem_append.1 hl with hl | hl
         · obtain ⟨k, rfl⟩ := a2 l hl; rfl
         · exact g1 l hl
       · rw [List.map_append, List.map_map, g2]
         congr 1
         exact List.map_id u1
       · rcases List.mem_append.1 hp with hp | hp
         · obtain ⟨l, hl, rfl⟩ := List.mem_map.1 hp; obtain ⟨k, rfl⟩ := a2 l hl; rfl
         · exact g3 p hp
       · have eP := g4 ρ (fun p jZ => hp p (List.mem_append_right _ jZ)) hr; refine ⟨(lF qs (bl ps) x1).1, lx ps (lF qs (bl ps) x1).2, rfl, ⟨us, rfl, fun j A hj => ?_⟩, by rw [a1]; exact eP⟩; obtain ⟨⟨r, dd, hqr⟩, u, b1, b2, b3, b4⟩ := q1 j A hj; obtain ⟨A', xs, c1, c2, cd, c3, c4, c5⟩ := a3 j r dd hqr; rw [Nat.zero_add] at c1 c5; obtain ⟨e1, e2, e3⟩ := (h.dR _ b4).2 A' c1; obtain ⟨er, MH⟩ := a6 c3; have ha := vQ h c1; have hρ : ρ (.sp i j) = some (.bK i j) := hp (.sp i j, .bK i j) (List.mem_append_left _ (List.mem_map.2 ⟨_, c5, rfl⟩)); have hw : r.width = A.r.width := by rw [← er]; exact e1
         have hn : xs.length = A.xs.length := by
           rw [← e2, MH]
           cases er
           rfl
         refine ⟨_, u, c4, b1, hw, hn, b2, ?_, rfl, ?_⟩
         · show iB (lc i j) r.width 0 xs.length u; rw [hw, hn]; exact b3
         · show match lc i j with
             | .nil => xs = []
             | .at b off cap => _
           obtain ⟨rA, ahU, xsA, mdA⟩ := A'; simp only at er c2 cd; subst er c2 cd; have MH : xs = xsA := MH; subst MH; unfold bM at ha; have e3 : c.lc i j = lc i j := e3; rw [e3] at ha
           cases gz : lc i j with
           | nil => rw [gz] at ha; exact ha
           | «at» b off cap =>
             rw [gz] at ha; obtain ⟨k0, k2, k3, k4⟩ := ha; exact ⟨(Cz.jI k0).trans hρ, k2, k3, k4.map hρ⟩
   | box EL qs =>
     cases av with
     | val _ _ => exact h0.elim
     | io _ => exact h0.elim
     | bD _ => exact h0.elim
     | box os =>
       obtain ⟨mD, q1, q2⟩ := h0; simp only [Nat.add_zero] at q2; unfold rn at he; obtain ⟨q, hq, he⟩ := Option.bind_eq_some_iff.1 he; obtain ⟨p, hp, he⟩ := Option.map_eq_some_iff.1 he; obtain ⟨x2, u2, r2⟩ := q; obtain ⟨x1, u1, r1⟩ := p; injection he with e1 e2; injection e2 with e2 e3; subst e1 e2 e3; obtain ⟨g1, tb, g2, g3, g4⟩ := rP h ps (i + 1) dC vs R4 ZJ wk hq; have PW := h.dR _ q2; have hV : eo c st w (.one (.ptr i 1 0)) v := ⟨by rw [q1]; rfl, PW.1, fun cs sy => by rw [PW.2 cs sy, q1]⟩; obtain ⟨a1, a2, ta, a3, a4, a5⟩ := yr h i hV hp; refine ⟨fun l hl => ?_, ta ++ tb, by simp [a3, g2], fun p hp => ?_, fun ρ hp hr => ?_⟩
       · rcases List.mem_append.1 hl with hl | hl
         · exact a2 l hl
         · exact g1 l hl
       · rcases List.mem_append.1 hp with hp | hp
         · exact a4 p hp
         · exact g3 p hp
       · have VY := a5 ρ (fun p jZ => hp p (List.mem_append_left _ jZ)) (fun p jZ => hr p (List.mem_append_left _ jZ)); have eP := g4 ρ (fun p jZ => hp p (List.mem_append_right _ jZ)) (fun p jZ => hr p (List.mem_append_right _ jZ)); refine ⟨(dA qs (bl ps) x1).1, lx ps (dA qs (bl ps) x1).2, rfl, VY, ?_⟩; have : (dA qs (bl ps) x1).2 = x2 := a1; rw [this]; exact eP
end Go.TM
namespace Go.TM
open Go Go.RowKit
def start (n : Nat) (ps : List AP) (x : aq (aw (ps.map some))) : St := mE 0 (ca (ps.map some) x ++ List.replicate (n + 1 - ps.length) none)
theorem oR : (l : List (Option AP)) → (x : aq (aw l)) → (ca l x).length = l.length
 | [], _ => rfl
 | none :: l, x => by
   show (ca l x).length + 1 = l.length + 1; rw [oR l x]
 | some p :: l, x => by
   show (ca l (p.av (aw l) x).2).length + 1 = l.length + 1; rw [oR l _]
theorem vT {c : Cz} {w : World} {lc : Nat → Nat → Loc} : (ps : List AP) → (i : Nat) → (dC : List AV) → (vs : List Value) → {x : aq (aw (ps.map some))} → eM ps dC = some x → wJ c w lc i dC vs →
   ps.length = dC.length ∧ ps.length = vs.length ∧ ∀ k av, (ca (ps.map some) x)[k]? = some (some av) → ∃ v, vs[k]? = some v ∧ qT c w (i + k) (lc (i + k)) av v
 | [], i, [], vs, x, hx, h => by
   have : vs = [] := h; subst this; exact ⟨rfl, rfl, fun k av hk => by
     have hk : ([] : List (Option AV))[k]? = some (some av) := hk; simp at hk⟩
 | [], _, _ :: _, _, _, hx, _ => by simp [eM] at hx
 | _ :: _, _, [], _, _, hx, _ => by simp [eM] at hx
 | p :: ps, i, av :: dC, vs, x, hx, h => by
   obtain ⟨v, l, rfl, h1, h2⟩ := h; unfold eM at hx
   cases hy : eM ps dC with
   | none => simp [hy] at hx
   | some y =>
     simp only [hy] at hx; obtain ⟨g1, g2, g3⟩ := vT ps (i + 1) dC l hy h2; obtain ⟨q1, q2⟩ := GQ (c := c) (w := w) (i := i) (lc := lc i) hx; refine ⟨by simp [g1], by simp [g2], fun k Kg hk => ?_⟩
     cases k with
     | zero =>
       have hk : some (some (p.av (aw (ps.map some)) x).1) = some (some Kg) := hk; simp only [Option.some.injEq] at hk; subst hk; exact ⟨v, rfl, q2 v h1⟩
     | succ k =>
       have hk : (ca (ps.map some) (p.av (aw (ps.map some)) x).2)[k]? = some (some Kg) := hk; rw [q1] at hk; obtain ⟨v', h3, h4⟩ := g3 k Kg hk; exact ⟨v', by simpa using h3, by rw [show i + (k + 1) = i + 1 + k by omega]; exact h4⟩
def iC (lc : Nat → Loc) (i : Nat) : (j : Nat) → List OV → List KO
 | _, [] => []
 | j, .own A :: os => .arr i j 1 A.r.width A.xs.length (lc j) :: iC lc i (j + 1) os
 | j, .int _ _ :: os => iC lc i (j + 1) os
 | j, .bool _ :: os => iC lc i (j + 1) os
 | j, .str _ :: os => iC lc i (j + 1) os
 | j, .shr _ _ :: os => iC lc i (j + 1) os
 | j, .kC _ _ :: os => iC lc i (j + 1) os
 | j, .fn _ _ _ :: os => iC lc i (j + 1) os
 | j, .dL :: os => iC lc i (j + 1) os
theorem yu {lc : Nat → Loc} {i : Nat} : (os : List OV) → (j : Nat) → ∀ p ∈ iC lc i j os, ∃ k A, os[k]? = some (.own A) ∧ p = .arr i (j + k) 1 A.r.width A.xs.length (lc (j + k))
 | [], j, p, h => by simp [iC] at h
 | o :: os, j, p, h => by
   have rest : p ∈ iC lc i (j + 1) os → ∃ k A, (o :: os)[k]? = some (.own A) ∧ p = .arr i (j + k) 1 A.r.width A.xs.length (lc (j + k)) := by
     intro h; obtain ⟨k, A, h1, h2⟩ := yu os (j + 1) p h; refine ⟨k + 1, A, by simpa using h1, ?_⟩; rw [h2, show j + 1 + k = j + (k + 1) by omega]
   cases o with
   | own A =>
     rcases List.mem_cons.1 h with h | h
     · exact ⟨0, A, rfl, h⟩
     · exact rest h
   | _ => exact rest h
theorem Am {lc : Nat → Loc} {i : Nat} : (os : List OV) → (j : Nat) → ∀ (k : Nat) (A : gr), os[k]? = some (.own A) → KO.arr i (j + k) 1 A.r.width A.xs.length (lc (j + k)) ∈ iC lc i j os
 | [], j, k, A, h => by simp at h
 | o :: os, j, 0, A, h => by
   simp only [List.getElem?_cons_zero, Option.some.injEq] at h; subst h; exact List.mem_cons_self
 | o :: os, j, k + 1, A, h => by
   have := Am (lc := lc) (i := i) os (j + 1) k A (by simpa using h); rw [show j + 1 + k = j + (k + 1) by omega] at this
   cases o with
   | own A => exact List.mem_cons_of_mem _ this
   | _ => exact this
def B5 (lc : Nat → Nat → Loc) : (i : Nat) → List AV → List Value → List KO
 | _, [], _ => []
 | _, _ :: _, [] => []
 | i, .val _ _ :: as, _ :: vs => B5 lc (i + 1) as vs
 | i, .io A :: as, _ :: vs => .arr i 0 1 A.r.width A.xs.length (lc i 0) :: B5 lc (i + 1) as vs
 | i, .bD os :: as, _ :: vs => iC (lc i) i 0 os ++ B5 lc (i + 1) as vs
 | i, .box _ :: as, v :: vs => .box i 1 (match v with | .pointer (some ad) => ad.block | _ => 0) :: B5 lc (i + 1) as vs
theorem rQ {lc : Nat → Nat → Loc} : (i : Nat) → (as : List AV) → (vs : List Value) → ∀ p ∈ B5 lc i as vs, ∃ k av v, as[k]? = some av ∧ vs[k]? = some v ∧ ((∃ A, av = .io A ∧ p = .arr (i + k) 0 1 A.r.width A.xs.length (lc (i + k) 0)) ∨ (∃ os, av = .box os ∧ p = .box (i + k) 1 (match v with | .pointer (some ad) => ad.block | _ => 0)) ∨ ∃ os j A, av = .bD os ∧ os[j]? = some (.own A) ∧ p = .arr (i + k) j 1 A.r.width A.xs.length (lc (i + k) j))
 | _, [], _, p, h => by simp [B5] at h
 | _, _ :: _, [], p, h => by simp [B5] at h
 | i, .val _ _ :: as, _ :: vs, p, h => by
   obtain ⟨k, av, v, h1, h2, h3⟩ := rQ (i + 1) as vs p h; exact ⟨k + 1, av, v, by simpa using h1, by simpa using h2, by rw [show i + (k + 1) = i + 1 + k by omega]; exact h3⟩
 | i, .io A :: as, v0 :: vs, p, h => by
   rcases List.mem_cons.1 h with h | h
   · exact ⟨0, .io A, v0, rfl, rfl, .inl ⟨A, rfl, h⟩⟩
   · obtain ⟨k, av, v, h1, h2, h3⟩ := rQ (i + 1) as vs p h; exact ⟨k + 1, av, v, by simpa using h1, by simpa using h2, by rw [show i + (k + 1) = i + 1 + k by omega]; exact h3⟩
 | i, .box os :: as, v0 :: vs, p, h => by
   rcases List.mem_cons.1 h with h | h
   · exact ⟨0, .box os, v0, rfl, rfl, .inr (.inl ⟨os, rfl, h⟩)⟩
   · obtain ⟨k, av, v, h1, h2, h3⟩ := rQ (i + 1) as vs p h; exact ⟨k + 1, av, v, by simpa using h1, by simpa using h2, by rw [show i + (k + 1) = i + 1 + k by omega]; exact h3⟩
 | i, .bD os :: as, v0 :: vs, p, h => by
   rcases List.mem_append.1 h with h | h
   · obtain ⟨j, A, h1, h2⟩ := yu os 0 p h; rw [Nat.zero_add] at h2; exact ⟨0, .bD os, v0, rfl, rfl, .inr (.inr ⟨os, j, A, rfl, h1, h2⟩)⟩
   · obtain ⟨k, av, v, h1, h2, h3⟩ := rQ (i + 1) as vs p h; exact ⟨k + 1, av, v, by simpa using h1, by simpa using h2, by rw [show i + (k + 1) = i + 1 + k by omega]; exact h3⟩
theorem Kk {lc : Nat → Nat → Loc} : (i : Nat) → (as : List AV) → (vs : List Value) → as.length = vs.length → ∀ k av v, as[k]? = some av → vs[k]? = some v → (∀ A, av = .io A → KO.arr (i + k) 0 1 A.r.width A.xs.length (lc (i + k) 0) ∈ B5 lc i as vs) ∧ (∀ os, av = .box os → KO.box (i + k) 1 (match v with | .pointer (some ad) => ad.block | _ => 0) ∈ B5 lc i as vs) ∧ (∀ os, av = .bD os → ∀ j A, os[j]? = some (.own A) → KO.arr (i + k) j 1 A.r.width A.xs.length (lc (i + k) j) ∈ B5 lc i as vs)
 | _, [], _, _, k, av, v, h, _ => by simp at h
 | _, _ :: _, [], hn, _, _, _, _, _ => by simp at hn
 | i, a0 :: as, v0 :: vs, hn, 0, av, v, h1, h2 => by
   simp only [List.getElem?_cons_zero, Option.some.injEq] at h1 h2; subst h1 h2; refine ⟨fun A e => ?_, fun os e => ?_, fun os e j A hj => ?_⟩
   · subst e; exact List.mem_cons_self
   · subst e; exact List.mem_cons_self
   · subst e; have := Am (lc := lc i) (i := i) os 0 j A hj; rw [Nat.zero_add] at this; exact List.mem_append_left _ this
 | i, a0 :: as, v0 :: vs, hn, k + 1, av, v, h1, h2 => by
   obtain ⟨g1, g2, g3⟩ := Kk (i + 1) as vs (by simpa using hn) k av v (by simpa using h1) (by simpa using h2); have e : i + (k + 1) = i + 1 + k := by omega
   rw [e]
   cases a0 with
   | val _ _ => exact ⟨g1, g2, g3⟩
   | io _ => exact ⟨fun A h => List.mem_cons_of_mem _ (g1 A h), fun os h => List.mem_cons_of_mem _ (g2 os h), fun os h j A hj => List.mem_cons_of_mem _ (g3 os h j A hj)⟩
   | box _ => exact ⟨fun A h => List.mem_cons_of_mem _ (g1 A h), fun os h => List.mem_cons_of_mem _ (g2 os h), fun os h j A hj => List.mem_cons_of_mem _ (g3 os h j A hj)⟩
   | bD _ => exact ⟨fun A h => List.mem_append_right _ (g1 A h), fun os h => List.mem_append_right _ (g2 os h), fun os h j A hj => List.mem_append_right _ (g3 os h j A hj)⟩
def kX (ps : List AP) (mu : Mu) : Prop :=
 ∀ p ∈ mu.an, (∃ i r W n l, p = .arr i 0 1 W n l ∧ ∃ d, ps[i]? = some (.io r d)) ∨ (∃ i mD b qs, p = .box i 1 mD ∧ ps[i]? = some (.box b qs)) ∨ ∃ i j W n l qs, p = .arr i j 1 W n l ∧ ps[i]? = some (.bD qs)
theorem B6 : (ps : List OP) → (t : RT) → (os : List OV) → (y : aq t) → {x : aq (kO ps t)} → dj ps t os y = some x → ∀ (j : Nat) (A : gr), os[j]? = some (.own A) → (∃ r d, ps[j]? = some (.own r d)) ∧ ∃ B : gr, (dA ps t x).1[j]? = some (.own B) ∧ B.r.width = A.r.width ∧ B.xs.length = A.xs.length
 | [], t, [], y, x, h => by intro k A hk; simp at hk
 | [], _, _ :: _, _, _, h => by simp [dj] at h
 | _ :: _, _, [], _, _, h => by simp [dj] at h
 | p :: ps, t, o :: os, y, x, h => by
   unfold dj at h
   cases h1 : pO p o with
   | none => simp [h1] at h
   | some a =>
     cases h2 : dj ps t os y with
     | none => simp [h1, h2] at h
     | some z =>
       simp only [h1, h2] at h; have h : (a, z) = x := Option.some.inj h; subst h; intro j A hj
       cases j with
       | succ j =>
         obtain ⟨⟨r, d, q1⟩, B, q2, q3⟩ := B6 ps t os y h2 j A (by simpa using hj); exact ⟨⟨r, d, by simpa using q1⟩, B, (by show (dA ps t z).1[j]? = _; exact q2), q3⟩
       | zero =>
         simp only [List.getElem?_cons_zero, Option.some.injEq] at hj; subst hj
         cases p with
         | own r d =>
           have h1 : (bif A.md.is d then bA r A.xs else none) = some a := h1; obtain ⟨_, h1⟩ := aH h1; obtain ⟨er, MH⟩ := a6 h1; refine ⟨⟨r, d, rfl⟩, { r := r, own := true, xs := a, md := d }, rfl, by show r.width = _; rw [← er], ?_⟩; show List.length (a : List (aq r)) = _; rw [MH]
           cases er
           rfl
         | _ => cases h1
theorem An : (ps : List AP) → (dC : List AV) → {x : aq (aw (ps.map some))} → eM ps dC = some x → ∀ (k : Nat) (av : AV), dC[k]? = some av → ∃ p : AP, ps[k]? = some p ∧ match p, av with
   | .io _ _, .io A => ∃ B : gr, (ca (ps.map some) x)[k]? = some (some (.io B)) ∧ B.r.width = A.r.width ∧ B.xs.length = A.xs.length
   | .box _ _, .box _ => True
   | .val _ _, .val _ _ => True
   | .bD qs, .bD os => ∃ yc : List OV, (ca (ps.map some) x)[k]? = some (some (AV.bD yc)) ∧ ∀ (j : Nat) (A : gr), os[j]? = some (OV.own A) → (∃ r d, qs[j]? = some (OP.own r d)) ∧ ∃ B : gr, yc[j]? = some (OV.own B) ∧ B.r.width = A.r.width ∧ B.xs.length = A.xs.length
   | _, _ => False
 | [], [], _, _ => by intro k av h; simp at h
 | [], _ :: _, _, hx => by simp [eM] at hx
 | _ :: _, [], _, hx => by simp [eM] at hx
 | p :: ps, av :: dC, x, hx => by
   unfold eM at hx
   cases hy : eM ps dC with
   | none => simp [hy] at hx
   | some y =>
     simp only [hy] at hx; have e2 : (p.av (aw (ps.map some)) x).2 = y := (GQ (c := ⟨fun _ => 0, fun _ _ => .nil, fun _ => none⟩) (w := default) (i := 0) (lc := fun _ => .nil) hx).1; intro k Kg hk
     cases k with
     | zero =>
       simp only [List.getElem?_cons_zero, Option.some.injEq] at hk; subst hk; refine ⟨p, rfl, ?_⟩
       cases p with
       | val agg qs => cases av with
         | val _ _ => trivial
         | io _ => cases agg <;> cases hx
         | box _ => cases agg <;> cases hx
         | bD _ => cases agg <;> cases hx
       | io r d => cases av with
         | val _ _ => cases hx
         | box _ => cases hx
         | bD _ => cases hx
         | io A =>
           have hx : (bif A.md.is d then (match bA r A.xs with | some xs => some ((xs, y) : aq (.cons (.sl r) (aw (ps.map some)))) | none => none) else none) = some x := hx; obtain ⟨_, hx⟩ := aH hx
           cases hc : bA r A.xs with
           | none => rw [hc] at hx; cases hx
           | some xs =>
             rw [hc] at hx; injection hx with hx; obtain ⟨er, MH⟩ := a6 hc; refine ⟨{ r := r, own := true, xs := x.1, md := d }, rfl, by show r.width = _; rw [← er], ?_⟩; show List.length (x.1 : List (aq r)) = _; rw [← hx]; show xs.length = _; rw [MH]
             cases er
             rfl
       | box b qs => cases av with
         | val _ _ => cases hx
         | io _ => cases hx
         | bD _ => cases hx
         | box _ => trivial
       | bD qs => cases av with
         | val _ _ => cases hx
         | io _ => cases hx
         | box _ => cases hx
         | bD os =>
           have hx : dj qs (aw (ps.map some)) os y = some x := hx; exact ⟨_, rfl, B6 qs _ os y hx⟩
     | succ k =>
       obtain ⟨p', h1, h2⟩ := An ps dC hy k Kg (by simpa using hk); refine ⟨p', by simpa using h1, ?_⟩; have eh : (ca ((p :: ps).map some) x)[k + 1]? = (ca (ps.map some) y)[k]? := by
         show (ca (ps.map some) (p.av (aw (ps.map some)) x).2)[k]? = _; rw [e2]
       cases p' <;> cases Kg <;> simp only at h2 ⊢ <;> (try exact h2)
       · obtain ⟨B, q1, q2, q3⟩ := h2; exact ⟨B, eh.trans q1, q2, q3⟩
       · obtain ⟨yc, q1, q2⟩ := h2; exact ⟨yc, eh.trans q1, q2⟩
end Go.TM
namespace Go.TM
open Go Go.RowKit
theorem GR {P : Program} {fn : Func} {tm : Array Value} {w : World} {vals : List Value} (h : (fn.results.toList.mapM (B4 tm)).run P w = .ok vals w) :
   (results fn tm).run P w = .ok (if hs : vals.toArray.size = 1 then vals.toArray[0] else .tuple vals.toArray) w := by
 have e : results fn tm = (do let vs ← fn.results.mapM (B4 tm); pure (if h : vs.size = 1 then vs[0] else .tuple vs) : Sem Value) := rfl; rw [e, Array.mapM_eq_mapM_toList]; simp [Sem.run_bind, h]
theorem GS {c : Cz} {w : World} {mu : Mu} {lc : Nat → Nat → Loc} {dC : List AV} {args : Array Value} (hH : Handed c w mu) (hA : wJ c w lc 0 dC args.toList) {ps : List AP} {x : aq (aw (ps.map some))} (hx : eM ps dC = some x) {n : Nat} (hn : ps.length ≤ n) :
   ∃ (A9 : Mu) (c' : Cz), A9.m = mu.m ∧ A9.ok = mu.ok ∧ kX ps A9 ∧ E6 A9 lc 0 ps dC args.toList ∧ args.size = ps.length ∧ dC.length = ps.length ∧
     Rel w A9 c' (start n ps x) { tmps := args ++ Array.replicate (n - args.size) undef, defers := [] } w := by
 obtain ⟨l1, l2, hold⟩ := vT ps 0 dC args.toList hx hA; have NS := An ps dC hx; have B7 : args.size = ps.length := by rw [l2]; simp
 let a : Act := { tmps := args ++ Array.replicate (n - args.size) undef, defers := [] }
 have Q9 : ∀ k v, args.toList[k]? = some v → a.eval (.tmp k) = v := by
   intro k v hk; have bX : k < args.size := by
     have := (List.getElem?_eq_some_iff.1 hk).1; simpa using this
   show (args ++ Array.replicate (n - args.size) undef).getD k undef = v; rw [Array.getD_eq_getD_getElem?, Array.getElem?_append_left bX]; rw [Array.getElem?_toList] at hk; rw [hk]; rfl
 let A9 : Mu := { m := mu.m, ok := mu.ok, an := B5 lc 0 dC args.toList }
 have hlen : (ca (ps.map some) x ++ List.replicate (n + 1 - ps.length) none).length = n + 1 := by
   rw [List.length_append, oR]; simp; omega
 have Gj : ∀ (i : Nat) (av : AV), (ca (ps.map some) x ++ List.replicate (n + 1 - ps.length) none)[i]? = some (some av) → (ca (ps.map some) x)[i]? = some (some av) := by
   intro i av hi
   by_cases h : i < (ca (ps.map some) x).length
   · rwa [List.getElem?_append_left h] at hi
   · rw [List.getElem?_append_right (by omega), List.getElem?_replicate] at hi
     split at hi <;> simp at hi
 have zw : zo w A9 c w := ⟨fun b l hb => ⟨hH.lt b l hb, (hH.lb b l hb).imp id fun hh => .inr ((hH.m b).2 ⟨l, hb, hh⟩)⟩, fun b _ hb => .inr ((hH.ok b).2 hb), ⟨rfl, rfl, rfl, Nat.le_refl _⟩, fun _ _ _ => rfl⟩; have Sw : zx c w lc a 0 (ca (ps.map some) x ++ List.replicate (n + 1 - ps.length) none) := by
   intro i av hi; obtain ⟨v, h1, h2⟩ := hold i av (Gj i av hi); have := Q9 i v h1; rw [Nat.zero_add] at h2 ⊢; rw [this]; exact h2
 have Ra : ∀ k av v, dC[k]? = some av → args.toList[k]? = some v → qT c w k (lc k) av v := by
   have key : ∀ (dC : List AV) (i : Nat) (vs : List Value), wJ c w lc i dC vs → ∀ k av v, dC[k]? = some av → vs[k]? = some v → qT c w (i + k) (lc (i + k)) av v := by
     intro dC
     induction dC with
     | nil => intro i vs _ k av v h; simp at h
     | cons a0 dC ih =>
       intro i vs h k av v h1 h2; obtain ⟨v0, l, rfl, g1, g2⟩ := h
       cases k with
       | zero => simp at h1 h2; subst h1 h2; exact g1
       | succ k =>
         have := ih (i + 1) l g2 k av v (by simpa using h1) (by simpa using h2)
         rwa [show i + 1 + k = i + (k + 1) by omega] at this
   intro k av v h1 h2; have := key dC 0 args.toList hA k av v h1 h2
   rwa [Nat.zero_add] at this
 have W4 : ∀ p ∈ A9.an, NL (ca (ps.map some) x ++ List.replicate (n + 1 - ps.length) none) lc a p := by
   intro p hp; obtain ⟨k, av, v, h1, h2, h3⟩ := rQ 0 dC args.toList p hp; have hk : k < ps.length := by rw [l1]; exact (List.getElem?_eq_some_iff.1 h1).1
   simp only [Nat.zero_add] at h3; obtain ⟨p', q1, q2⟩ := NS k av h1; rcases h3 with ⟨A, rfl, rfl⟩ | ⟨os, rfl, rfl⟩ | ⟨os, j, A, rfl, hj, rfl⟩
   · refine ⟨rfl, by rw [hlen]; omega, fun Kg Sx => .inl ?_⟩
     cases p' with
     | io r dd =>
       obtain ⟨B, e1, e2, e3⟩ := q2; have := Gj k Kg Sx; rw [e1] at this; simp only [Option.some.injEq] at this; exact ⟨B, this.symm, fun _ => ⟨e2, e3, rfl⟩⟩
     | val _ _ => exact q2.elim
     | box _ _ => exact q2.elim
     | bD _ => exact q2.elim
   · refine ⟨rfl, by rw [hlen]; omega, fun yc _ => ?_⟩; obtain ⟨mD, vs, ty, e1, _⟩ := Ra k _ v h1 h2; rw [Q9 k v h2, e1]
   · refine ⟨rfl, by rw [hlen]; omega, fun Kg Sx => .inr ?_⟩
     cases p' with
     | io r dd => exact q2.elim
     | val _ _ => exact q2.elim
     | box _ _ => exact q2.elim
     | bD qs =>
       obtain ⟨yc, e1, e2⟩ := q2; have := Gj k Kg Sx; rw [e1] at this; simp only [Option.some.injEq] at this; obtain ⟨_, B, e3, e4, e5⟩ := e2 j A hj; refine ⟨yc, this.symm, fun A' eb => ?_⟩; rw [e3] at eb; injection eb with eb; injection eb with eb; subst eb; exact ⟨e4, e5, rfl⟩
 obtain ⟨c', hR⟩ := Rel.Ki (a := a) zw rfl Sw W4; refine ⟨A9, c', rfl, rfl, fun p hp => ?_, fun k p av v h0 h1 h2 => ?_, B7, l1.symm, hR⟩
 · obtain ⟨k, av, v, h1, h2, h3⟩ := rQ 0 dC args.toList p hp; simp only [Nat.zero_add] at h3; obtain ⟨p', q1, q2⟩ := NS k av h1; rcases h3 with ⟨A, rfl, rfl⟩ | ⟨os, rfl, rfl⟩ | ⟨os, j, A, rfl, hj, rfl⟩
   · cases p' with
     | io r dd => exact .inl ⟨k, r, _, _, _, rfl, dd, q1⟩
     | val _ _ => exact q2.elim
     | box _ _ => exact q2.elim
     | bD _ => exact q2.elim
   · cases p' with
     | io r dd => exact q2.elim
     | val _ _ => exact q2.elim
     | box b qs => exact .inr (.inl ⟨k, _, b, qs, rfl, q1⟩)
     | bD _ => exact q2.elim
   · cases p' with
     | io r dd => exact q2.elim
     | val _ _ => exact q2.elim
     | box b qs => exact q2.elim
     | bD qs => exact .inr (.inr ⟨k, j, _, _, _, qs, rfl, q1⟩)
 · obtain ⟨p', q1, q2⟩ := NS k av h1; rw [h0] at q1
   cases q1
   have hh := Ra k av v h1 h2; obtain ⟨a1, a2, a3⟩ := Kk (lc := lc) 0 dC args.toList (by rw [← l1, l2]) k av v h1 h2; rw [Nat.zero_add] at a1 a2 a3 ⊢
   cases p with
   | val _ _ => cases av with
     | val _ _ => trivial
     | io _ => exact q2.elim
     | box _ => exact q2.elim
     | bD _ => exact q2.elim
   | bD qs => cases av with
     | val _ _ => exact q2.elim
     | io _ => exact q2.elim
     | box _ => exact q2.elim
     | bD os =>
       obtain ⟨us, rfl, hl, Nw⟩ := hh; obtain ⟨yc, _, e2⟩ := q2; obtain ⟨n1, _⟩ := bd.NK os 0 _ hl; refine ⟨us, rfl, fun j A hj => ⟨(e2 j A hj).1, ?_⟩⟩; have bX : j < us.toList.length := by rw [n1]; exact (List.getElem?_eq_some_iff.1 hj).1
       have hO : OwnAt c w (.bK k j) (lc k j) A us.toList[j] := Nw j _ _ hj (List.getElem?_eq_getElem bX); exact ⟨_, List.getElem?_eq_getElem bX, hO.1, hO.2.1, a3 os rfl j A hj⟩
   | io r dd => cases av with
     | val _ _ => exact q2.elim
     | box _ => exact q2.elim
     | bD _ => exact q2.elim
     | io A =>
       have hO : OwnAt c w (.bK k 0) (lc k 0) A v := hh; exact ⟨hO.1, hO.2.1, a1 A rfl⟩
   | box _ _ => cases av with
     | val _ _ => exact q2.elim
     | io _ => exact q2.elim
     | bD _ => exact q2.elim
     | box os =>
       obtain ⟨mD, vs, ty, e1, _⟩ := hh; refine ⟨mD, e1, ?_⟩; have := a2 os rfl; rw [e1] at this; exact this
theorem IC {P : Program} {T : kh} (hT : fG P T) {w0 : World} {mu A9 : Mu} (hm : A9.m = mu.m) (fF : A9.ok = mu.ok) {c : Cz} {st : St} {a : Act} {w : World} (h : Rel w0 A9 c st a w) {fn : Func} {ps : List AP} {rs : List RP} (WD : wM T a.tmps fn.results.toList rs)
   {lc : Nat → Nat → Loc} {dC : List AV} {vs : List Value} (h1 : ps.length = dC.length) (h2 : ps.length = vs.length) (hl : E6 A9 lc 0 ps dC vs) {e : Ex} {y : aq (cn rs (bl ps))} (hf : B3 rs ps e st = some y) :
   (e = .normal ∨ e = .ret) ∧ ∃ v, (results fn a.tmps).run P w = .ok v w ∧ ∃ c', zo w0 mu c' w ∧ pJ c' w (ft rs (bl ps) y).1 v ∧ gO c' w lc 0 dC vs (lx ps (ft rs (bl ps) y).2) := by
 have he : e = .normal ∨ e = .ret := by
   cases e with
   | normal => exact .inl rfl
   | ret => exact .inr rfl
   | exit m => cases hf
 refine ⟨he, ?_⟩; have hf : ((rn st 0 ps).bind fun x => (BZ st rs (bl ps) x.1).bind fun q => bif sr (bI q.2.1 ++ x.2.1) && apart (bI q.2.1 ++ x.2.1) (q.2.2 ++ x.2.2) then some q.1 else none) = some y := by
   rcases he with rfl | rfl <;> exact hf
 obtain ⟨qx, hqx, hf⟩ := Option.bind_eq_some_iff.1 hf; obtain ⟨qr, hqr, hf⟩ := Option.bind_eq_some_iff.1 hf; obtain ⟨nT, hy⟩ := aH hf; injection hy with hy; obtain ⟨x1, u1, r1⟩ := qx; obtain ⟨x2, u2, r2⟩ := qr; subst hy; rw [Bool.and_eq_true] at nT; obtain ⟨a1, tb, a2, a3, a4⟩ := rP h ps 0 dC vs h1 h2 hl hqx; obtain ⟨b1, b2, b3, vals, b4, b5, b6⟩ := Eg hT h fn.results.toList rs WD (bl ps) x1 hqr; have Ah : ∀ l ∈ bI u2 ++ u1, l.real = true := fun l hl => (List.mem_append.1 hl).elim (b3 l) (a1 l)
 have Ij := nb _ Ah nT.1; have Dd : ∀ p ∈ r2 ++ r1, Lb.sp p.1 p.2 ∉ bI u2 ++ u1 := by
   intro p hp hm; have h1 := List.all_eq_true.1 nT.2 p hp; have h2 := List.all_eq_true.1 h1 _ hm; rw [(Lb.yd rfl).2 rfl] at h2
   cases h2
 let tab := yh .gM 0 u2 ++ tb
 have W5 : tab.map (·.1) = bI u2 ++ u1 := by show (yh .gM 0 u2 ++ tb).map _ = _; rw [List.map_append, yl, a2]
 have oJ := Classical.propDecidable
 let ρ : Lb → Option Lb := fun l => match look tab l with | some y => some y | none => if l = .out then some .out else none
 have hρt : ∀ p ∈ tab, ρ p.1 = some p.2 := by
   intro p hp; have := yf tab (by rw [W5]; exact Ij) hp; show (match look tab p.1 with | some y => some y | none => _) = _; rw [this]
 have yn : ∀ {l y}, look tab l = some y → l ∈ bI u2 ++ u1 := by
   intro l y hl; have := vR tab hl; rw [← W5]; exact List.mem_map.2 ⟨_, this, rfl⟩
 have hρr : ∀ p ∈ r2 ++ r1, ρ (.sp p.1 p.2) = none := by
   intro p hp; show (match look tab (.sp p.1 p.2) with | some y => some y | none => if Lb.sp p.1 p.2 = .out then some Lb.out else none) = none
   cases hl : look tab (.sp p.1 p.2) with
   | some y => exact absurd (yn hl) (Dd p hp)
   | none => simp
 have hρo : ρ .out = some .out := by
   show (match look tab Lb.out with | some y => some y | none => if Lb.out = Lb.out then some Lb.out else none) = _
   cases hl : look tab Lb.out with
   | some y => have := Ah _ (yn hl); cases this
   | none => simp
 have zw : zo w0 mu (c.map ρ) w := by
   refine ⟨fun b l hb => ?_, fun b hb hn => ?_, h.kept, by rw [← hm]; exact h.old⟩
   · obtain ⟨k, hk, e⟩ := Cz.map_some hb; obtain ⟨g1, g2⟩ := h.owned b k hk; refine ⟨g1, ?_⟩; rw [← hm]; refine g2.imp (fun e2 => ?_) id; subst e2; rw [hρo] at e
     cases e; rfl
   · rw [← hm, ← fF]
     cases hk : c.own b with
     | none => exact h.free b hb hk
     | some k =>
       have e : ρ k = none := (Cz.jI (ρ := ρ) hk).symm.trans hn; rcases (h.owned b k hk).2 with g | g | g
       · subst g; rw [hρo] at e; cases e
       · exact absurd g (Nat.not_le_of_lt hb)
       · exact .inl g
 have hX := a4 ρ (fun p hp => hρt p (List.mem_append_right _ hp)) (fun p hp => hρr p (List.mem_append_right _ hp)); have hR := b6 ρ 0 (fun k l hk => by
   have := hρt _ (List.mem_append_left tb (uI .gM 0 u2 k l hk)); exact this) (fun p hp => hρr p (List.mem_append_left _ hp))
 refine ⟨_, GR b4, c.map ρ, zw, ?_, by rw [b1]; exact hX⟩; have hlen : vals.length = (ft rs (bl ps) x2).1.length := by
   have : rs.length = fn.results.toList.length := by
     have key : ∀ (l : List ResultVar) (m : List RP), wM T a.tmps l m → m.length = l.length := by
       intro l
       induction l with
       | nil => intro m hm; cases m with
         | nil => rfl
         | cons _ _ => exact hm.elim
       | cons v l ih => intro m hm; cases m with
         | nil => exact hm.elim
         | cons r m => simp [ih m hm.2]
     exact key _ _ WD
   rw [b5, b2, this]
 by_cases hs : vals.toArray.size = 1
 · rw [dif_pos hs]; have xU : vals.length = 1 := by simpa using hs
   obtain ⟨v, rfl⟩ : ∃ v, vals = [v] := by
     cases vals with
     | nil => cases xU
     | cons v l => cases l with
       | nil => exact ⟨v, rfl⟩
       | cons _ _ => simp at xU
   rw [xU] at hlen
   cases ho : (ft rs (bl ps) x2).1 with
   | nil => rw [ho] at hlen; cases hlen
   | cons r l => cases l with
     | cons _ _ => rw [ho] at hlen; simp at hlen
     | nil =>
       rw [ho] at hR; exact .inl ⟨r, rfl, hR⟩
 · rw [dif_neg hs]; refine .inr ⟨by rw [← hlen]; simpa using hs, vals.toArray, rfl, by simpa using hR⟩
theorem GU {P : Program} {T : kh} (hT : fG P T) (hE : uf P T) {S : jC} (hS : lu P S) {D : jU} {f : FuncId} {fn : Func} {code : Code} {n : Nat} {ps : List AP} {rs : List RP} {L : l5 (aq (cn rs (bl ps)))} {Rb : Nat → Array Oper → Prop}
   {t : aq (aw (ps.map some)) → Option (aq (cn rs (bl ps)))}
   (hf : P.funcs[f]? = some fn) (hb : fn.body = some code) (hn : fn.ntmps = n) (PH : ps.length ≤ n) (ug : eQ n code = true) (BC : ∀ tm, wM T tm fn.results.toList rs)
   (hL : ∀ (w0 : World) (mu : Mu) (y : aq (cn rs (bl ps))), kX ps mu → dE (ll P w0 mu n L y) code)
   (hD : ∀ (w0 : World) (mu : Mu), pr (aq (cn rs (bl ps))) P T S D w0 mu n Rb) (W6 : dS Rb code)
   (ID : ∀ (w0 : World) (mu : Mu) (c : Cz) (a : Act) (w : World) x, Rel w0 mu c (start n ps x) a w → a.tmps.size = n → ∃ c2 gm, Rel w0 mu c2 gm a w ∧ eC T S D L code gm (B3 rs ps) = t x) : FnOk P f (j3 ps rs t) := by
 intro c w mu lc dC args A y hH hA hs ho; unfold j3 at hs
 cases hx : eM ps dC with
 | none => rw [hx] at hs; cases hs
 | some x =>
   rw [hx] at hs; simp only [Option.some.injEq] at hs; subst hs; have Ba : t x = some y := ho; obtain ⟨A9, c', hm, fF, B8, Kl, B7, Le, hR⟩ := GS hH hA hx PH; refine calls_of_wp hf hb ?_; rw [hn]; have ki : (args ++ Array.replicate (n - args.size) undef).size = n := by simp; omega
   obtain ⟨c2, gm, hR2, W7⟩ := ID w A9 c' _ w x hR ki; refine x9 (oQ hT hE hS w A9 n) (hD w A9) code ug (hL w A9 y B8) W6 (fun {e} {c1} {zi} {a1} {w1} h1 h2 h3 => ?_) hR2 ki (W7.trans Ba); obtain ⟨he, v, ns, c2, F0, hV, hX⟩ := IC (P := P) hT hm fF h1 (BC a1.tmps) Le.symm (by rw [← B7]; simp) Kl h3; have BT : a1.defers = [] ∧ ∃ v, (results fn a1.tmps).run P w1 = .ok v w1 ∧ (∃ v', Ending.returned v = .returned v' ∧ ∃ c', zo w mu c' w1 ∧ pJ c' w1 (ft rs (bl ps) y).1 v' ∧ gO c' w1 lc 0 dC args.toList (lx ps (ft rs (bl ps) y).2)) :=
     ⟨h1.plain, v, ns, v, rfl, c2, F0, hV, hX⟩
   rcases he with rfl | rfl <;> exact BT
theorem W8 {P : Program} {T : kh} (hT : fG P T) (hE : uf P T) {S : jC} (hS : lu P S) {D : jU} {f : FuncId} {fn : Func} {code : Code} {n : Nat} {ps : List AP} {rs : List RP} {L : l5 (aq (cn rs (bl ps)))} {Rb : Nat → Array Oper → Prop}
   {t : aq (aw (ps.map some)) → Option (aq (cn rs (bl ps)))}
   (hf : P.funcs[f]? = some fn) (hb : fn.body = some code) (hn : fn.ntmps = n) (PH : ps.length ≤ n) (ug : eQ n code = true) (BC : ∀ tm, wM T tm fn.results.toList rs)
   (hL : ∀ (w0 : World) (mu : Mu) (y : aq (cn rs (bl ps))), kX ps mu → dE (ll P w0 mu n L y) code)
   (hD : ∀ (w0 : World) (mu : Mu), pr (aq (cn rs (bl ps))) P T S D w0 mu n Rb) (W6 : dS Rb code)
   (ID : ∀ x, eC T S D L code (start n ps x) (B3 rs ps) = t x) : FnOk P f (j3 ps rs t) :=
 GU hT hE hS hf hb hn PH ug BC hL hD W6 (fun _ _ c _ _ x h _ => ⟨c, _, h, ID x⟩)
end Go.TM
namespace Go.TM
open Go Go.RowKit
def iter {X E : Type} (round : X → Option (Sum X E)) : Nat → X → Option E
 | 0, _ => none
 | n + 1, x => match round x with
   | some (.inl y) => iter round n y
   | some (.inr e) => some e
   | none => none
theorem zy {X E : Type} {round : X → Option (Sum X E)} : (n : Nat) → {x : X} → {e : E} → iter round n x = some e → ∀ m, n ≤ m → iter round m x = some e
 | 0, _, _, h, _, _ => by cases h
 | n + 1, x, e, h, 0, hm => by omega
 | n + 1, x, e, h, m + 1, hm => by
   unfold iter at h ⊢
   cases hr : round x with
   | none => rw [hr] at h; cases h
   | some z => cases z with
     | inl y => rw [hr] at h; exact zy n h m (by omega)
     | inr e' => rw [hr] at h; exact h
noncomputable def aE {X E : Type} (round : X → Option (Sum X E)) (x : X) : Option E :=
 have := Classical.propDecidable (∃ e n, iter round n x = some e)
 if h : ∃ e n, iter round n x = some e then some (Classical.choose h) else none
theorem B9 {X E : Type} {round : X → Option (Sum X E)} {x : X} {e : E} {n : Nat} (h : iter round n x = some e) : aE round x = some e := by
 have hex : ∃ e n, iter round n x = some e := ⟨e, n, h⟩; unfold aE; simp only; rw [dif_pos hex]; obtain ⟨m, hm⟩ := Classical.choose_spec hex; have h1 := zy m hm (max m n) (Nat.le_max_left _ _); have h2 := zy n h (max m n) (Nat.le_max_right _ _); rw [h1] at h2; exact h2
theorem sH {X E : Type} {round : X → Option (Sum X E)} {x : X} {e : E} (h : aE round x = some e) : ∃ n, iter round n x = some e := by
 unfold aE at h; simp only at h
 split at h
 · rename_i hex; injection h with h; rw [← h]; exact Classical.choose_spec hex
 · cases h
theorem gP {X E : Type} (round : X → Option (Sum X E)) (x : X) : aE round x = match round x with | some (.inl y) => aE round y | some (.inr e) => some e | none => none := by
 cases hr : round x with
 | none =>
   cases h : aE round x with
   | none => rfl
   | some e =>
     obtain ⟨n, hn⟩ := sH h
     cases n with
     | zero => cases hn
     | succ n => unfold iter at hn; rw [hr] at hn; cases hn
 | some z => cases z with
   | inr e => exact B9 (n := 1) (by unfold iter; rw [hr])
   | inl y =>
     simp only
     cases h : aE round y with
     | some e =>
       obtain ⟨n, hn⟩ := sH h; exact B9 (n := n + 1) (by unfold iter; rw [hr]; exact hn)
     | none =>
       cases h2 : aE round x with
       | none => rfl
       | some e =>
         obtain ⟨n, hn⟩ := sH h2
         cases n with
         | zero => cases hn
         | succ n =>
           unfold iter at hn; rw [hr] at hn; rw [B9 hn] at h
           cases h
def Ca (st : St) (hp : List (Option AP)) : Option (aq (aw hp)) :=
 (l9 st 0 hp).bind fun q => bif sr q.2.1 && apart q.2.1 q.2.2 then some q.1 else none
def mP (hp : List (Option AP)) (x : aq (aw hp)) : St := mE 0 (ca hp x)
def fN : List AP → List (Option AP) → Bool
 | [], _ => true
 | .val _ _ :: ps, _ :: hp => fN ps hp
 | .io _ _ :: ps, o :: hp => (match o with | none => true | some (.io _ _) => true | _ => false) && fN ps hp
 | .box _ _ :: ps, o :: hp => (match o with | none => true | some (.box l _) => l | some (.val _ _) => true | _ => false) && fN ps hp
 | .bD _ :: _, _ :: _ => false
 | _ :: _, [] => false
theorem sI : (ps : List AP) → (hp : List (Option AP)) → fN ps hp = true → ∀ (i : Nat) (p : AP), ps[i]? = some p → ∃ o, hp[i]? = some o ∧ match p with
   | .val _ _ => True
   | .io _ _ => o = none ∨ ∃ r d, o = some (.io r d)
   | .box _ _ => o = none ∨ (∃ a b, o = some (.val a b)) ∨ ∃ b, o = some (.box true b)
   | .bD _ => False
 | [], _, _ => by intro i p h; simp at h
 | p :: ps, [], h => by cases p <;> simp [fN] at h
 | p :: ps, o :: hp, h => by
   intro i p' hi; have eP : fN ps hp = true := by
     cases p with
     | val _ _ => exact h
     | io _ => unfold fN at h; rw [Bool.and_eq_true] at h; exact h.2
     | bD _ => cases h
     | box _ _ => unfold fN at h; rw [Bool.and_eq_true] at h; exact h.2
   cases i with
   | succ i => exact (sI ps hp eP i p' (by simpa using hi)).imp fun o ho => ⟨by simpa using ho.1, ho.2⟩
   | zero =>
     simp only [List.getElem?_cons_zero, Option.some.injEq] at hi; subst hi; refine ⟨o, rfl, ?_⟩
     cases p with
     | val _ _ => trivial
     | bD _ => cases h
     | io _ =>
       unfold fN at h; rw [Bool.and_eq_true] at h
       cases o with
       | none => exact .inl rfl
       | some q => cases q with
         | io r d => exact .inr ⟨r, d, rfl⟩
         | val _ _ => cases h.1
         | box _ _ => cases h.1
         | bD _ => cases h.1
     | box _ _ =>
       unfold fN at h; rw [Bool.and_eq_true] at h
       cases o with
       | none => exact .inl rfl
       | some q => cases q with
         | io r d => cases h.1
         | bD _ => cases h.1
         | val a b => exact .inr (.inl ⟨a, b, rfl⟩)
         | box l b =>
           have : l = true := h.1; subst this; exact .inr (.inr ⟨b, rfl⟩)
end Go.TM
namespace Go.TM
open Go Go.RowKit
theorem NT {st : St} {k : Nat} {rr : RT} {dd : Md} {t : RT} {V : V} {y : aq t} {x : aq (.cons (.sl rr) t)} {u : List Lb} {r : List (Nat × Nat)} (h : Al st k (.io rr dd) t V y = some (x, u, r)) : ∃ A, aQ st k 0 1 = some A ∧ bA rr A.xs = some x.1 := by
 cases V with
 | agg _ => cases h
 | lU _ => cases h
 | one cx => cases cx with
   | ref a j g vw => cases vw with
     | full =>
       have h : (bif Nat.beq a k && (Nat.beq j 0 && Nat.beq g 1) then ((aQ st a j g).bind fun A => bif A.own && A.md.is dd then (bA rr A.xs).map fun xs => ((xs, y), [Lb.sp a j], ([] : List (Nat × Nat))) else none) else none) = some (x, u, r) := h; obtain ⟨h1, h2⟩ := aH h; rw [Bool.and_eq_true, Bool.and_eq_true] at h1; have e1 := Nat.eq_of_beq_eq_true h1.1; have e2 := Nat.eq_of_beq_eq_true h1.2.1; have e3 := Nat.eq_of_beq_eq_true h1.2.2; subst e1 e2 e3; obtain ⟨A, hA, h3⟩ := Option.bind_eq_some_iff.1 h2; obtain ⟨_, h4⟩ := aH h3; obtain ⟨xs, Q8, e⟩ := Option.map_eq_some_iff.1 h4; injection e with e _; exact ⟨A, hA, by rw [Q8, ← e]; rfl⟩
     | «from» _ => cases h
     | sub _ _ => cases h
   | _ => cases h
theorem Lm {st : St} {k : Nat} {qs : List OP} {t : RT} {V : V} {y : aq t} {x : aq (kO qs t)} {u : List Lb} {r : List (Nat × Nat)} (h : Al st k (.box true qs) t V y = some (x, u, r)) : V = .one (.ptr k 1 0) ∧ ∃ cs, dx st k 1 = some cs := by
 cases V with
 | agg _ => cases h
 | lU _ => cases h
 | one cx => cases cx with
   | ptr b g off =>
     have h : (bif Nat.beq off 0 && (!true || (Nat.beq b k && Nat.beq g 1)) then ((dx st b g).bind fun cs => (j2 st qs t cs y).map fun q => (q.1, Lb.box b :: bI q.2.1, q.2.2)) else none) = some (x, u, r) := h; obtain ⟨h1, h2⟩ := aH h; simp only [Bool.not_true, Bool.false_or] at h1; rw [Bool.and_eq_true, Bool.and_eq_true] at h1; have e1 := Nat.eq_of_beq_eq_true h1.1; have e2 := Nat.eq_of_beq_eq_true h1.2.1; have e3 := Nat.eq_of_beq_eq_true h1.2.2; subst e1 e2 e3; obtain ⟨cs, sy, _⟩ := Option.bind_eq_some_iff.1 h2; exact ⟨rfl, cs, sy⟩
   | _ => cases h
theorem uR {w0 : World} {mu : Mu} {c : Cz} {st : St} {a : Act} {w : World} (h : Rel w0 mu c st a w) : (l : List (Option AP)) → (k : Nat) → {x : aq (aw l)} → {u : List Lb} → {r : List (Nat × Nat)} → l9 st k l = some (x, u, r) → ∀ (i : Nat),
   (∀ rr dd, l[i]? = some (some (.io rr dd)) → ∃ B A : gr, (ca l x)[i]? = some (some (.io B)) ∧ aQ st (k + i) 0 1 = some A ∧ B.r.width = A.r.width ∧ B.xs.length = A.xs.length) ∧
   (∀ qs, l[i]? = some (some (.box true qs)) → (∃ cs, dx st (k + i) 1 = some cs) ∧ bW st (k + i) = .one (.ptr (k + i) 1 0)) ∧
   (l[i]? = some none → (ca l x)[i]? = some none) ∧ (∀ ag b, l[i]? = some (some (.val ag b)) → ∃ os, (ca l x)[i]? = some (some (.val ag os)))
 | [], k, x, u, r, he => by intro i; simp
 | none :: l, k, x, u, r, he => by
   intro i
   cases i with
   | zero => exact ⟨fun _ _ h => by simp at h, fun _ h => by simp at h, fun _ => rfl, fun _ _ h => by simp at h⟩
   | succ i =>
     have := uR h l (k + 1) he i; rw [show k + 1 + i = k + (i + 1) by omega] at this; exact this
 | some p :: l, k, x, u, r, he => by
   intro i; unfold l9 at he
   cases h1 : l9 st (k + 1) l with
   | none => simp [h1] at he
   | some q1 =>
     obtain ⟨y, us, rs⟩ := q1; simp only [h1] at he
     cases h2 : Al st k p (aw l) (bW st k) y with
     | none => simp [h2] at he
     | some q2 =>
       obtain ⟨x1, u1, r1⟩ := q2; simp only [h2] at he; injection he with he; injection he with e1 e2; subst e1
       cases i with
       | succ i =>
         have hh := uR h l (k + 1) h1 i; rw [show k + 1 + i = k + (i + 1) by omega] at hh; have e : (p.av (aw l) x1).2 = y := (yr h k (h.eL k) h2).1; have e2 : (ca (some p :: l) x1)[i + 1]? = (ca l y)[i]? := by
           show (ca l (p.av (aw l) x1).2)[i]? = _; rw [e]
         rw [e2]; exact hh
       | zero =>
         have e2 : (ca (some p :: l) x1)[0]? = some (some (p.av (aw l) x1).1) := rfl; rw [e2]; simp only [List.getElem?_cons_zero, Option.some.injEq, Nat.add_zero]; refine ⟨fun rr dd e => ?_, fun qs e => ?_, (fun e => by cases e), fun ag b e => ?_⟩
         · subst e; obtain ⟨A, hA, hc⟩ := NT h2; obtain ⟨er, MH⟩ := a6 hc; refine ⟨_, A, rfl, hA, by show rr.width = _; rw [← er], ?_⟩; show List.length (x1.1 : List (aq rr)) = _; rw [MH]
           cases er
           rfl
         · subst e; obtain ⟨q1, q2⟩ := Lm h2; exact ⟨q2, q1⟩
         · subst e; exact ⟨_, rfl⟩
end Go.TM
namespace Go.TM
open Go Go.RowKit
theorem Cb {w0 : World} {mu : Mu} {c : Cz} {st : St} {a : Act} {w : World} (h : Rel w0 mu c st a w) {ps : List AP} (hs : kX ps mu) {hp : List (Option AP)} (pG : fN ps hp = true) {x : aq (aw hp)} (hx : Ca st hp = some x) : ∃ c', Rel w0 mu c' (mP hp x) a w := by
 obtain ⟨q, hq, Ik⟩ := Option.bind_eq_some_iff.1 hx; obtain ⟨nT, Di⟩ := aH Ik; injection Di with Di; obtain ⟨x0, u, r⟩ := q; subst Di; rw [Bool.and_eq_true] at nT; obtain ⟨Ah, tb, Ns, WL, hold⟩ := uQ h hp 0 hq; have W9 := uR h hp 0 hq; have Ij := nb _ Ah nT.1; have Dd : ∀ p ∈ r, Lb.sp p.1 p.2 ∉ u := by
   intro p hp hm; have h1 := List.all_eq_true.1 nT.2 p hp; have h2 := List.all_eq_true.1 h1 _ hm; rw [(Lb.yd rfl).2 rfl] at h2
   cases h2
 have oJ := Classical.propDecidable
 let ρ : Lb → Option Lb := fun l => match look tb l with | some y => some y | none => if l = .out then some .out else none
 have hρt : ∀ p ∈ tb, ρ p.1 = some p.2 := by
   intro p hp; have := yf tb (by rw [Ns]; exact Ij) hp; show (match look tb p.1 with | some y => some y | none => _) = _; rw [this]
 have yn : ∀ {l y}, look tb l = some y → l ∈ u := by
   intro l y hl; have := vR tb hl; rw [← Ns]; exact List.mem_map.2 ⟨_, this, rfl⟩
 have hρr : ∀ p ∈ r, ρ (.sp p.1 p.2) = none := by
   intro p hp; show (match look tb (.sp p.1 p.2) with | some y => some y | none => if Lb.sp p.1 p.2 = .out then some Lb.out else none) = none
   cases hl : look tb (.sp p.1 p.2) with
   | some y => exact absurd (yn hl) (Dd p hp)
   | none => simp
 have hρo : ρ .out = some .out := by
   show (match look tb Lb.out with | some y => some y | none => if Lb.out = Lb.out then some Lb.out else none) = _
   cases hl : look tb Lb.out with
   | some y => have := Ah _ (yn hl); cases this
   | none => simp
 have zw : zo w0 mu (c.map ρ) w := by
   refine ⟨fun b l hb => ?_, fun b hb hn => ?_, h.kept, h.old⟩
   · obtain ⟨k, hk, e⟩ := Cz.map_some hb; obtain ⟨g1, g2⟩ := h.owned b k hk; refine ⟨g1, g2.imp (fun e2 => ?_) id⟩; subst e2; rw [hρo] at e
     cases e; rfl
   · cases hk : c.own b with
     | none => exact h.free b hb hk
     | some k =>
       have e : ρ k = none := (Cz.jI (ρ := ρ) hk).symm.trans hn; rcases (h.owned b k hk).2 with g | g | g
       · subst g; rw [hρo] at e; cases e
       · exact absurd g (Nat.not_le_of_lt hb)
       · exact .inl g
 refine Rel.Ki zw h.plain (hold ρ hρt hρr) (fun p hpm => ?_); have PW := h.dR p hpm; have hlen : ∀ (i : Nat) (o : Option AP), hp[i]? = some o → i < (ca hp x0).length := fun i o ho => by rw [oR]; exact (List.getElem?_eq_some_iff.1 ho).1
 rcases hs p hpm with ⟨i, rr, W, n, l, rfl, dd, Sc⟩ | ⟨i, mD, b, qs, rfl, Sc⟩ | ⟨i, j, W, n, l, qs, rfl, Sc⟩
 · obtain ⟨o, ho, Xa⟩ := sI ps hp pG i _ Sc; refine ⟨rfl, hlen i o ho, fun av GC => .inl ?_⟩; rcases Xa with rfl | ⟨r2, d2, rfl⟩
   · rw [(W9 i).2.2.1 ho] at GC; cases GC
   · obtain ⟨B, A, e1, e2, e3, e4⟩ := (W9 i).1 r2 d2 ho; rw [e1] at GC; simp only [Option.some.injEq] at GC; rw [Nat.zero_add] at e2; obtain ⟨f1, f2, f3⟩ := PW.2 A e2; exact ⟨B, GC.symm, fun _ => ⟨e3.trans f1, e4.trans f2, f3⟩⟩
 · obtain ⟨o, ho, Xa⟩ := sI ps hp pG i _ Sc; refine ⟨rfl, hlen i o ho, fun os ri => ?_⟩; rcases Xa with rfl | ⟨a1, b1, rfl⟩ | ⟨b1, rfl⟩
   · rw [(W9 i).2.2.1 ho] at ri; cases ri
   · obtain ⟨yc, e⟩ := (W9 i).2.2.2 a1 b1 ho; rw [e] at ri; cases ri
   · obtain ⟨⟨cs, sy⟩, hv⟩ := (W9 i).2.1 b1 ho; rw [Nat.zero_add] at sy hv; have rM := h.eL i; rw [hv] at rM; rw [rM.2.2 cs sy, PW.2 cs sy]
 · obtain ⟨o, ho, Xa⟩ := sI ps hp pG i _ Sc; exact Xa.elim
def zA (id : Nat) (hp e0 e1 : List (Option AP)) : Ex → St → Option (Sum (aq (aw hp)) (Sum (aq (aw e0)) (aq (aw e1))))
 | .normal, st => (Ca st hp).map .inl
 | .exit m, st => bif Nat.beq m id then (Ca st e0).map fun y => .inr (.inl y) else none
 | .ret, st => (Ca st e1).map fun y => .inr (.inr y)
noncomputable def zB {R : Type} (hp e0 e1 : List (Option AP)) (round : aq (aw hp) → Option (Sum (aq (aw hp)) (Sum (aq (aw e0)) (aq (aw e1))))) (st : St) (k : Ex → St → Option R) : Option R :=
 (Ca st hp).bind fun x => (aE round x).bind fun z => match z with
   | .inl y => k .normal (mP e0 y)
   | .inr y => k .ret (mP e1 y)
theorem PZ {R : Type} {P : Program} {T : kh} {S : jC} {D : jU} {n id : Nat} {w0 : World} {mu : Mu} {ps : List AP} {hp e0 e1 : List (Option AP)} {b : Code} {r : R} {L : l5 R} {Rb : Nat → Array Oper → Prop}
   {L' : l5 (Sum (aq (aw hp)) (Sum (aq (aw e0)) (aq (aw e1))))} {round : aq (aw hp) → Option (Sum (aq (aw hp)) (Sum (aq (aw e0)) (aq (aw e1))))}
   (Dj : qS P T S w0 mu n) (hD : pr (Sum (aq (aw hp)) (Sum (aq (aw e0)) (aq (aw e1)))) P T S D w0 mu n Rb) (hs : kX ps mu) (hf : (fN ps hp && (fN ps e0 && fN ps e1)) = true) (ug : eQ n b = true) (W6 : dS Rb b)
   (AW : ∀ z, dE (ll P w0 mu n L' z) b) (IE : ∀ x, eC T S D L' b (mP hp x) (zA id hp e0 e1) = round x) (hL : ∀ st k, L id b st k = zB hp e0 e1 round st k) : ll P w0 mu n L r id b := by
 intro k Q hk c st a w h hn hv; rw [Bool.and_eq_true, Bool.and_eq_true] at hf; rw [hL] at hv; unfold zB at hv; obtain ⟨x, hx, hv⟩ := Option.bind_eq_some_iff.1 hv; obtain ⟨z, hz, hv⟩ := Option.bind_eq_some_iff.1 hv; obtain ⟨c1, h1⟩ := Cb h hs hf.1 hx; obtain ⟨m, hm⟩ := sH hz; refine wp_block ?_; refine wp_loop_ghost (fun m a w => ∃ x c, Rel w0 mu c (mP hp x) a w ∧ a.tmps.size = n ∧ iter round m x = some z) m ⟨x, c1, h1, hn, hm⟩ ?_
 rintro m a w ⟨x, c, hR, hn, hi⟩
 cases m with
 | zero => cases hi
 | succ m =>
   unfold iter at hi
   cases hr : round x with
   | none => rw [hr] at hi; cases hi
   | some y =>
     rw [hr] at hi; refine x9 Dj hD b ug (AW y) W6 (fun {e} {c2} {gm} {a2} {w2} g1 g2 g3 => ?_) hR hn ((IE x).trans hr)
     cases e with
     | normal =>
       obtain ⟨x2, q1, rfl⟩ := Option.map_eq_some_iff.1 g3; obtain ⟨c3, g4⟩ := Cb g1 hs hf.1 q1; exact ⟨m, Nat.lt_succ_self m, x2, c3, g4, g2, hi⟩
     | exit m' =>
       obtain ⟨rR, g5⟩ := aH g3; have rR := Nat.eq_of_beq_eq_true rR; subst rR; obtain ⟨x2, q1, rfl⟩ := Option.map_eq_some_iff.1 g5; injection hi with hi; subst hi; obtain ⟨c3, g4⟩ := Cb g1 hs hf.2.1 q1; show (if m' = m' then Q .normal a2 w2 else Q (.exit m') a2 w2); rw [if_pos rfl]; exact hk g4 g2 hv
     | ret =>
       obtain ⟨x2, q1, rfl⟩ := Option.map_eq_some_iff.1 g3; injection hi with hi; subst hi; obtain ⟨c3, g4⟩ := Cb g1 hs hf.2.2 q1; exact hk g4 g2 hv
end Go.TM
namespace Go.TM
open Go Go.RowKit
section
variable {P : Program} {ops : Array Oper} {Q : Exit → Act → World → Prop} {md : Region.Mode} {ds : List Nat}
def rp (md : Region.Mode) (ops : Array Oper) (i : Nat) : Nat → Nat → Bool
 | 0, _ => false
 | fuel + 1, d => match ops[d]? with
   | some o => o.after.any fun e => Region.binds md e && (e.on == i || rp md ops i fuel e.on)
   | none => false
def rq (md : Region.Mode) (ops : Array Oper) (aM : Array Bool) : Prop :=
 ∀ j oj, ops[j]? = some oj → aM.getD j false = true → ∀ e ∈ oj.after, Region.binds md e = true → aM.getD e.on false = true
theorem rq.set {aM : Array Bool} {i : Nat} (h : rq md ops aM) (hi : i ∈ Region.ready md ops aM) : rq md ops (aM.setIfInBounds i true) := by
 obtain ⟨_, oi, Km, pK⟩ := mem_ready.1 hi; intro j oj hj hl e he hb
 by_cases Pp : i = j
 · subst Pp; have : oj = oi := Option.some.inj (hj.symm.trans Km); subst this; exact getD_set_true (pK e he hb)
 · rw [getD_set_ne false Pp] at hl; exact getD_set_true (h j oj hj hl e he hb)
theorem rq.none (md : Region.Mode) (ops : Array Oper) (n : Nat) : rq md ops (Array.replicate n false) := by
 intro j oj _ hl; simp [Array.getD_eq_getD_getElem?, Array.getElem?_replicate] at hl
 split at hl <;> simp at hl
theorem yv {aM : Array Bool} {i : Nat} (hc : rq md ops aM) : ∀ (fuel d : Nat), rp md ops i fuel d = true → aM.getD d false = true → aM.getD i false = true
 | 0, _, h, _ => by simp [rp] at h
 | fuel + 1, d, h, hl => by
   unfold rp at h
   cases ho : ops[d]? with
   | none => rw [ho] at h; simp at h
   | some o =>
     rw [ho] at h; obtain ⟨e, he, h1⟩ := Array.any_eq_true'.1 h; simp only [Bool.and_eq_true, Bool.or_eq_true, beq_iff_eq] at h1; have hle := hc d o ho hl e he h1.1; rcases h1.2 with h2 | h2
     · rw [← h2]; exact hle
     · exact yv hc fuel e.on h2 hle
theorem AX {aM : Array Bool} {i d fuel : Nat} (hc : rq md ops aM) (hr : rp md ops i fuel d = true) (F1 : aM.getD i true = false) : d ∉ Region.ready md ops aM := by
 intro hd; obtain ⟨_, o, ho, pK⟩ := mem_ready.1 hd; have hi : aM.getD i false = true := by
   cases fuel with
   | zero => simp [rp] at hr
   | succ n =>
     unfold rp at hr; rw [ho] at hr; obtain ⟨e, he, h1⟩ := Array.any_eq_true'.1 hr; simp only [Bool.and_eq_true, Bool.or_eq_true, beq_iff_eq] at h1; have hle := pK e he h1.1; rcases h1.2 with h2 | h2
     · rw [← h2]; exact hle
     · exact yv hc n e.on h2 hle
 rcases Nat.lt_or_ge i aM.size with h' | h'
 · simp [h'] at F1 hi; rw [F1] at hi
   cases hi
 · simp [Array.getElem?_eq_none h'] at F1
def mQ (P : Program) (md : Region.Mode) (ops : Array Oper) (Q : Exit → Act → World → Prop) (ds : List Nat) : Nat → Array Bool → Act → World → Prop
 | 0, aM, a, w => Region.ready md ops aM = [] ∧ Q .normal a w
 | fuel + 1, aM, a, w =>
   (Region.ready md ops aM = [] → Q .normal a w) ∧
   ∀ i ∈ Region.ready md ops aM, wpOp P ops Q i (fun a' w' => (i ∉ ds → gZ w w') ∧ mQ P md ops Q ds fuel (aM.setIfInBounds i true) a' w') a w
theorem wx : ∀ (fuel : Nat) (aM : Array Bool) (a : Act) (w : World), mQ P md ops Q ds fuel aM a w → wpAny P md ops Q fuel aM a w
 | 0, _, _, _, h => h
 | fuel + 1, _, _, _, h => ⟨h.1, fun i hi => wpOp_mono (fun a' w' h' => wx fuel _ a' w' h'.2) (h.2 i hi)⟩
theorem E7 {i : Nat} {oi : Oper} {v : Value} {w0 : World} (hi : ops[i]? = some oi) (GV : ∀ (j : Nat) (o : Oper) cs b, ops[j]? = some o → o.op ≠ .select cs b)
   (hQ : ∀ c a w, Q (.panic c) (a.put oi.dst v) w → Q (.panic c) a w) (n : Nat) :
   ∀ (fuel : Nat) (aM : Array Bool) (a : Act) (w : World),
     (∀ j oj, ops[j]? = some oj → j ≠ i → aM.getD j true = false → (∀ e ∈ oj.after, Region.binds md e = true → e.on ≠ i) → oi.apart ops oj = true) →
     rq md ops aM → (∀ d ∈ ds, aM.getD d true = false → rp md ops i n d = true) →
     i ∈ Region.ready md ops aM → YieldsIf P ops (gZ w0) oi v a → gZ w0 w →
     mQ P md ops Q ds fuel (aM.setIfInBounds i true) (a.put oi.dst v) w → mQ P md ops Q ds (fuel + 1) aM a w := by
 intro fuel
 induction fuel with
 | zero =>
   intro aM a w _ _ _ hr hy hS H; refine ⟨fun h => (by rw [h] at hr; cases hr), fun j hj => ?_⟩
   by_cases E8 : j = i
   · subst E8; exact hy.wpOp hi hS ⟨fun _ => gZ.refl w, H⟩
   · have := ready_mono hj E8; rw [H.1] at this
     cases this
 | succ fuel ih =>
   intro aM a w BJ hc hd hr hy hS H; refine ⟨fun h => (by rw [h] at hr; cases hr), fun j hj => ?_⟩
   by_cases E8 : j = i
   · subst E8; exact hy.wpOp hi hS ⟨fun _ => gZ.refl w, H⟩
   · have h1 := H.2 j (ready_mono hj E8); obtain ⟨IF, oj, Sy, pK⟩ := mem_ready.1 hj; have Ln := (mem_ready.1 hr).1; have Lk : ∀ e ∈ oj.after, Region.binds md e = true → e.on ≠ i := fun e he hb heq => by
       have h1 := pK e he hb; rw [heq] at h1; rcases Nat.lt_or_ge i aM.size with h' | h'
       · simp [h'] at Ln h1; rw [Ln] at h1; cases h1
       · simp [Array.getElem?_eq_none h'] at h1
     have hjd : j ∉ ds := fun hm => AX hc (hd j hm IF) Ln hj
     have h2 := wpOp_putIf Sy (BJ j oj Sy E8 IF Lk) (fun cs b => GV i oi cs b hi) (fun cs b => GV j oj cs b Sy) hQ hy h1; have IG : ∀ k ok, ops[k]? = some ok → k ≠ i → (aM.setIfInBounds j true).getD k true = false →
         (∀ e ∈ ok.after, Region.binds md e = true → e.on ≠ i) → oi.apart ops ok = true := fun k ok hk hki F1 Sh => by
       refine BJ k ok hk hki ?_ Sh
       by_cases F2 : j = k
       · subst F2; exact IF
       · rw [getD_set_ne true F2] at F1; exact F1
     have IA : ∀ d ∈ ds, (aM.setIfInBounds j true).getD d true = false → rp md ops i n d = true := fun d hm F1 => by
       refine hd d hm ?_
       by_cases F2 : j = d
       · subst F2; exact IF
       · rw [getD_set_ne true F2] at F1; exact F1
     refine wpOp_mono (fun a' w' h3 => ⟨h3.2.1, ih (aM.setIfInBounds j true) a' w' IG (hc.set hj) IA (ready_mono hr (Ne.symm E8)) h3.1 (hS.trans (h3.2.1 hjd)) ?_⟩) h2; rw [Array.setIfInBounds_comm _ _ E8]; exact h3.2.2
theorem IH {i : Nat} {oi : Oper} {v : Value} (hi : ops[i]? = some oi) (GV : ∀ (j : Nat) (o : Oper) cs b, ops[j]? = some o → o.op ≠ .select cs b)
   (hQ : ∀ c a w, Q (.panic c) (a.put oi.dst v) w → Q (.panic c) a w) :
   ∀ (fuel : Nat) (aM : Array Bool) (a : Act) (w : World),
     (∀ j oj, ops[j]? = some oj → j ≠ i → aM.getD j true = false → (∀ e ∈ oj.after, Region.binds md e = true → e.on ≠ i) → oi.apart ops oj = true) →
     i ∈ Region.ready md ops aM → Yields P ops oi v a →
     mQ P md ops Q ds fuel (aM.setIfInBounds i true) (a.put oi.dst v) w → mQ P md ops Q ds (fuel + 1) aM a w := by
 intro fuel
 induction fuel with
 | zero =>
   intro aM a w _ hr hy H; refine ⟨fun h => (by rw [h] at hr; cases hr), fun j hj => ?_⟩
   by_cases E8 : j = i
   · subst E8; exact (hy.yieldsIf (S := fun _ => True)).wpOp hi trivial ⟨fun _ => gZ.refl w, H⟩
   · have := ready_mono hj E8; rw [H.1] at this
     cases this
 | succ fuel ih =>
   intro aM a w BJ hr hy H; refine ⟨fun h => (by rw [h] at hr; cases hr), fun j hj => ?_⟩
   by_cases E8 : j = i
   · subst E8; exact (hy.yieldsIf (S := fun _ => True)).wpOp hi trivial ⟨fun _ => gZ.refl w, H⟩
   · have h1 := H.2 j (ready_mono hj E8); obtain ⟨IF, oj, Sy, pK⟩ := mem_ready.1 hj; have Ln := (mem_ready.1 hr).1; have Lk : ∀ e ∈ oj.after, Region.binds md e = true → e.on ≠ i := fun e he hb heq => by
       have h1 := pK e he hb; rw [heq] at h1; rcases Nat.lt_or_ge i aM.size with h' | h'
       · simp [h'] at Ln h1; rw [Ln] at h1; cases h1
       · simp [Array.getElem?_eq_none h'] at h1
     have h2 := wpOp_put Sy (BJ j oj Sy E8 IF Lk) (fun cs b => GV i oi cs b hi) (fun cs b => GV j oj cs b Sy) hQ hy h1; have IG : ∀ k ok, ops[k]? = some ok → k ≠ i → (aM.setIfInBounds j true).getD k true = false →
         (∀ e ∈ ok.after, Region.binds md e = true → e.on ≠ i) → oi.apart ops ok = true := fun k ok hk hki F1 Sh => by
       refine BJ k ok hk hki ?_ Sh
       by_cases F2 : j = k
       · subst F2; exact IF
       · rw [getD_set_ne true F2] at F1; exact F1
     refine wpOp_mono (fun a' w' h3 => ⟨h3.2.1, ih (aM.setIfInBounds j true) a' w' IG (ready_mono hr (Ne.symm E8)) h3.1 ?_⟩) h2; rw [Array.setIfInBounds_comm _ _ E8]; exact h3.2.2
end
end Go.TM
namespace Go.TM
open Go Go.RowKit
def wN (i : Nat) : List Nat → Bool
 | [] => false
 | x :: l => Nat.beq x i || wN i l
def Rc (ops : List Oper) (ls : List Nat) (j : Nat) : Bool :=
 match nth ops j with
 | some o => !wN j ls && o.after.toList.all fun e => !Region.binds .any e || wN e.on ls
 | none => false
def Ko (ops : Array Oper) (GW : List Oper) (n : Nat) (ls : List Nat) (i : Nat) : Bool :=
 match nth GW i with
 | some oi => (List.range n).all fun j => Nat.beq j i || (wN j ls || match nth GW j with
   | some oj => (oj.after.toList.any fun e => Region.binds .any e && Nat.beq e.on i) || oi.apart ops oj
   | none => true)
 | none => false
def E9 (GW : List Oper) (n : Nat) (ls : List Nat) (i : Nat) : Bool := (List.range n).all fun j => Nat.beq j i || !Rc GW ls j
def Pl.ca : Pl → List Nat
 | .nil => []
 | .op i _ _ => [i]
 | .alt p q => p.ca ++ q.ca
def NU (GW : List Oper) (n : Nat) (ls hs : List Nat) : Bool := (List.range n).all fun j => !Rc GW ls j || wN j hs
def j4 (ops : Array Oper) (GW : List Oper) (n : Nat) (ds : List Nat) : Bool → List Nat → Pl → Bool
 | al, ls, .nil => !al && (List.range n).all fun j => !Rc GW ls j
 | al, ls, .op i kd r => Rc GW ls i && ((match kd with
     | .any => !al && Ko ops GW n ls i
     | .take => !al && (Ko ops GW n ls i && ds.all fun d => wN d ls || rp .any ops i n d)
     | .one => al || E9 GW n ls i
     | .last => (al || E9 GW n ls i) && wN i ds) && j4 ops GW n ds false (i :: ls) r)
 | al, ls, .alt p q => (al || NU GW n ls (p.ca ++ q.ca)) && (j4 ops GW n ds true ls p && j4 ops GW n ds true ls q)
def Eh : Pl → List Nat
 | .nil => []
 | .op i .last l => i :: Eh l
 | .op _ _ l => Eh l
 | .alt p q => Eh p ++ Eh q
def Pl.depth : Pl → Nat
 | .nil => 0
 | .op _ _ l => l.depth + 1
 | .alt p q => Nat.max p.depth q.depth
def Cc (ops : Array Oper) (l : Pl) : Bool :=
 Region.noSelect ops && (Nat.ble l.depth ops.size && j4 ops ops.toList ops.size (Eh l) false [] l)
structure Pq (n : Nat) (ls : List Nat) (aM : Array Bool) : Prop where
 size : aM.size = n
 gf : ∀ j, aM.getD j false = wN j ls
 gt : ∀ j, aM.getD j true = (wN j ls || decide (n ≤ j))
theorem Pq.push {n : Nat} {ls : List Nat} {aM : Array Bool} (h : Pq n ls aM) {i : Nat} (hi : i < n) : Pq n (i :: ls) (aM.setIfInBounds i true) where
 size := by simp [h.size]
 gf := fun j => by
   unfold wN
   by_cases e : i = j
   · subst e; have : Nat.beq i i = true := Nat.beq_refl i; rw [this]; simp [h.size, hi]
   · rw [getD_set_ne false e, h.gf j]; have : Nat.beq i j = false := by
       cases hq : Nat.beq i j
       · rfl
       · exact absurd (Nat.eq_of_beq_eq_true hq) e
     simp [this]
 gt := fun j => by
   unfold wN
   by_cases e : i = j
   · subst e; simp [h.size, hi]
   · rw [getD_set_ne true e, h.gt j]; have : Nat.beq i j = false := by
       cases hq : Nat.beq i j
       · rfl
       · exact absurd (Nat.eq_of_beq_eq_true hq) e
     simp [this]
theorem Pq.none (n : Nat) : Pq n [] (Array.replicate n false) where
 size := by simp
 gf := fun j => by
   simp only [Array.getD_eq_getD_getElem?, Array.getElem?_replicate, wN]
   split <;> rfl
 gt := fun j => by
   simp only [Array.getD_eq_getD_getElem?, Array.getElem?_replicate, wN]
   split
   · rename_i h; simp; omega
   · rename_i h; simp; omega
theorem vU {ops : Array Oper} {ls : List Nat} {aM : Array Bool} (h : Pq ops.size ls aM) (j : Nat) : Rc ops.toList ls j = true ↔ j ∈ Region.ready .any ops aM := by
 rw [mem_ready]; unfold Rc; rw [fK, Array.getElem?_toList, h.gt j]
 cases ho : ops[j]? with
 | none => simp
 | some o =>
   have bX : j < ops.size := (Array.getElem?_eq_some_iff.1 ho).1; have hn : decide (ops.size ≤ j) = false := by simp; omega
   simp only [hn, Bool.or_false, Bool.and_eq_true, Bool.not_eq_true', List.all_eq_true, Array.mem_toList_iff, Bool.or_eq_true, Option.some.injEq, exists_eq_left', h.gf]
   constructor
   · rintro ⟨h0, h1⟩
     exact ⟨h0, fun e he hb => (h1 e he).resolve_left (by simp [hb])⟩
   · rintro ⟨h0, h1⟩
     refine ⟨h0, fun e he => ?_⟩
     cases hb : Region.binds .any e
     · exact .inl rfl
     · exact .inr (h1 e he hb)
theorem Lo {i j : Nat} (h : i ≠ j) : Nat.beq i j = false := by
 cases hq : Nat.beq i j
 · rfl
 · exact absurd (Nat.eq_of_beq_eq_true hq) h
theorem Cd {ops : Array Oper} {ls : List Nat} {aM : Array Bool} (h : Pq ops.size ls aM) {i : Nat} {oi : Oper} (hi : ops[i]? = some oi) (hf : Ko ops ops.toList ops.size ls i = true) :
   ∀ j oj, ops[j]? = some oj → j ≠ i → aM.getD j true = false → (∀ e ∈ oj.after, Region.binds .any e = true → e.on ≠ i) → oi.apart ops oj = true := by
 intro j oj hj E8 F1 Sh; unfold Ko at hf; rw [fK, Array.getElem?_toList, hi] at hf; have bX : j < ops.size := (Array.getElem?_eq_some_iff.1 hj).1; have h1 := List.all_eq_true.1 hf j (List.mem_range.2 bX); rw [fK, Array.getElem?_toList, hj, Lo E8, Bool.false_or] at h1; rw [h.gt j, Bool.or_eq_false_iff] at F1; rw [F1.1, Bool.false_or, Bool.or_eq_true] at h1; rcases h1 with h1 | h1
 · obtain ⟨e, he, h2⟩ := List.any_eq_true.1 h1; rw [Bool.and_eq_true] at h2; exact absurd (Nat.eq_of_beq_eq_true h2.2) (Sh e (Array.mem_toList_iff.1 he) h2.1)
 · exact h1
theorem GX {ops : Array Oper} {ls : List Nat} {aM : Array Bool} (h : Pq ops.size ls aM) {i : Nat} (hf : E9 ops.toList ops.size ls i = true) : ∀ j ∈ Region.ready .any ops aM, j = i := by
 intro j hj; have bX : j < ops.size := by
   obtain ⟨_, o, ho, _⟩ := mem_ready.1 hj; exact (Array.getElem?_eq_some_iff.1 ho).1
 have h1 := List.all_eq_true.1 hf j (List.mem_range.2 bX); rw [(vU h j).2 hj, Bool.not_true, Bool.or_false] at h1; exact Nat.eq_of_beq_eq_true h1
theorem yw {P : Program} {T : kh} {S : jC} {w0 : World} {mu : Mu} {c : Cz} {st aP : St} {a : Act} {w : World} {ops : Array Oper} {o : Oper} {C : World → Prop} (h : Rel w0 mu c st a w)
   (hd : ∀ k, o.dst = some k → k < a.tmps.size) (hv : (zj T S ops.toList st o).val = some aP)
   (base : (HW T S st o).val = some aP → ∃ v, (∀ w' : World, C w' → (execOp a.eval o).run P w' = .ok (.value v) w') ∧ Rel w0 mu c aP (a.put o.dst v) w) :
   ∃ v, YieldsIf P ops C o v a ∧ Rel w0 mu c aP (a.put o.dst v) w := by
 unfold zj at hv; unfold YieldsIf Region.wanted
 cases hg : o.guard with
 | none =>
   simp only [hg] at hv ⊢; obtain ⟨v, h1, h2⟩ := base hv; exact ⟨v, .inl ⟨trivial, h1⟩, h2⟩
 | some p =>
   obtain ⟨j, want⟩ := p; simp only [hg] at hv ⊢
   cases hj : (nth ops.toList j).bind (·.dst) with
   | none => simp [hj, N.val] at hv
   | some d =>
     simp only [hj] at hv
     split at hv
     · rename_i b Nj; obtain ⟨h1, h2⟩ := vN h Nj; rw [BL (ops := ops) hj h1 h2]; have yes : (HW T S (TM.aS st (some d) (.one (.bool b))) o).val = some aP → ∃ v, (∀ w' : World, C w' → (execOp a.eval o).run P w' = .ok (.value v) w') ∧ Rel w0 mu c aP (a.put o.dst v) w := fun e => base (by rwa [vO st d Nj] at e)
       have no : (N.done (TM.aS (TM.aS st (some d) (.one (.bool b))) o.dst (.lU []))).val = some aP → Rel w0 mu c aP (a.put o.dst undef) w := by
         intro e; simp only [N.val, Option.some.injEq] at e; subst e; rw [vO st d Nj]; exact h.aS (vP _ _ _) hd
       rcases uD hv with ⟨hb, xL⟩ | ⟨hb, xL⟩
       · subst hb
         cases want
         · exact ⟨undef, .inr ⟨rfl, rfl⟩, no xL⟩
         · obtain ⟨v, h3, h4⟩ := yes xL; exact ⟨v, .inl ⟨rfl, h3⟩, h4⟩
       · subst hb
         cases want
         · obtain ⟨v, h3, h4⟩ := yes xL; exact ⟨v, .inl ⟨rfl, h3⟩, h4⟩
         · exact ⟨undef, .inr ⟨rfl, rfl⟩, no xL⟩
     · rename_i Nj; simp only [N.val, Option.some.injEq] at hv; subst hv; rw [wq (ops := ops) hj (BM h Nj)]; exact ⟨undef, .inr ⟨by cases want <;> rfl, rfl⟩, h.aS (vP _ _ _) hd⟩
     · simp [N.val] at hv
theorem P0 {P : Program} {T : kh} (hT : fG P T) {S : jC} {w0 : World} {mu : Mu} {c : Cz} {st : St} {a : Act} {w : World} (h : Rel w0 mu c st a w) {o : Oper} (hk : kindOk S st o .take = true)
   {aP : St} (hv : (HW T S st o).val = some aP) (hd : ∀ k, o.dst = some k → k < a.tmps.size) : ∃ v, (∀ w' : World, gZ w w' → (execOp a.eval o).run P w' = .ok (.value v) w') ∧ Rel w0 mu c aP (a.put o.dst v) w := by
 unfold kindOk at hk; unfold HW at hv
 cases ho : o.op with
 | load t x =>
   simp only [ho] at hv; obtain ⟨v, h1, h2⟩ := F9 hT h (bh h x) hv hd; exact ⟨v, fun w' hw => by simp only [execOp, ho]; exact pI (h1 w' hw), h2⟩
 | _ => simp [ho] at hk
theorem yx {i : Nat} : (l : List Nat) → wN i l = true → i ∈ l
 | [], h => by cases h
 | x :: l, h => by
   unfold wN at h; rw [Bool.or_eq_true] at h; rcases h with h | h
   · rw [Nat.eq_of_beq_eq_true h]; exact List.mem_cons_self
   · exact List.mem_cons_of_mem _ (yx l h)
theorem uS {R : Type} {P : Program} {T : kh} (hT : fG P T) (hE : uf P T) {S : jC} {w0 : World} {mu : Mu} {n : Nat} (Dj : qS P T S w0 mu n) {ops : Array Oper} {ds : List Nat} {Q : Exit → Act → World → Prop} (hQ : ∀ c a w, ¬ Q (.panic c) a w)
   {k : St → Option R} {r : R} (hk : Next w0 mu n r k (Q .normal)) (P1 : Region.noSelect ops = true) (ug : wI n ops.toList = true) :
   (l : Pl) → (ls : List Nat) → (aM : Array Bool) → (fuel : Nat) → {c : Cz} → {st : St} → {a : Act} → {w : World} → Pq ops.size ls aM → rq .any ops aM → l.depth ≤ fuel →
     Rel w0 mu c st a w → a.tmps.size = n → rh T S ops.toList l st k = some r →
     (j4 ops ops.toList ops.size ds false ls l = true → mQ P .any ops Q ds fuel aM a w) ∧
     (j4 ops ops.toList ops.size ds true ls l = true → ∃ GY, fuel = GY + 1 ∧ ∀ i ∈ l.ca, i ∈ Region.ready .any ops aM ∧ wpOp P ops Q i (fun a' w' => (i ∉ ds → gZ w w') ∧ mQ P .any ops Q ds GY (aM.setIfInBounds i true) a' w') a w)
 | .nil, ls, aM, fuel, c, st, a, w, hl, _, _, h, hn, hv => by
   refine ⟨fun hb => ?_, fun hb => by simp [j4] at hb⟩; unfold j4 at hb; rw [Bool.and_eq_true] at hb; have hr : Region.ready .any ops aM = [] := by
     refine List.eq_nil_iff_forall_not_mem.2 fun j hj => ?_
     obtain ⟨_, o, ho, _⟩ := mem_ready.1 hj; have bX : j < ops.size := (Array.getElem?_eq_some_iff.1 ho).1; have h1 := List.all_eq_true.1 hb.2 j (List.mem_range.2 bX); rw [(vU hl j).2 hj] at h1
     cases h1
   have hq := hk h hn hv
   cases fuel with
   | zero => exact ⟨hr, hq⟩
   | succ fuel => exact ⟨fun _ => hq, fun i hi => by rw [hr] at hi; cases hi⟩
 | .op i kd l, ls, aM, 0, c, st, a, w, hl, _, hf, h, hn, hv => absurd hf (by simp [Pl.depth])
 | .op i kd l, ls, aM, fuel + 1, c, st, a, w, hl, hs, hf, h, hn, hv => by
   have hf : l.depth ≤ fuel := Nat.le_of_succ_le_succ hf; have first : ∀ al, j4 ops ops.toList ops.size ds al ls (.op i kd l) = true → Rc ops.toList ls i = true ∧ j4 ops ops.toList ops.size ds false (i :: ls) l = true := by
     intro al hb; unfold j4 at hb; rw [Bool.and_eq_true, Bool.and_eq_true] at hb; exact ⟨hb.1, hb.2.2⟩
   have step : Rc ops.toList ls i = true → j4 ops ops.toList ops.size ds false (i :: ls) l = true → (kd = .one ∨ i ∈ ds) → wpOp P ops Q i (fun a' w' => (i ∉ ds → gZ w w') ∧ mQ P .any ops Q ds fuel (aM.setIfInBounds i true) a' w') a w := by
     intro Sz eP hds; have Re := (vU hl i).1 Sz; obtain ⟨_, o, Km, _⟩ := mem_ready.1 Re; have bX : i < ops.size := (Array.getElem?_eq_some_iff.1 Km).1; unfold rh at hv; rw [fK, Array.getElem?_toList, Km] at hv; obtain ⟨Ps, hv⟩ := aH hv; rw [N.fold_eq] at hv; obtain ⟨aP, h1, h2⟩ := Option.bind_eq_some_iff.1 hv; have IA : ∀ k, o.dst = some k → k < a.tmps.size := fun k hk => by rw [hn]; exact zn ug (by rw [Array.mem_toList_iff]; exact Array.mem_of_getElem? Km) k hk
     have next : ∀ {c' : Cz} {a' : Act} {w' : World}, Rel w0 mu c' aP a' w' → a'.tmps.size = n → mQ P .any ops Q ds fuel (aM.setIfInBounds i true) a' w' := fun hr KV =>
       (uS hT hE Dj hQ hk P1 ug l (i :: ls) _ fuel (hl.push bX) (hs.set Re) hf hr KV h2).1 eP
     have hko : kd = .one → kindOk S st o .one = true := fun e => by rw [e] at Ps; exact Ps
     unfold wpOp; rw [Km]; rcases Gs Dj h hn (fun k hk => by rw [← hn]; exact IA k hk) h1 with ⟨hw, po⟩ | ⟨hw, uL⟩
     · simp only [hw, if_true]; refine .inl (Oper.wp_mono (fun a' w' ⟨⟨c', hr, ki⟩, PN⟩ => ⟨fun Ij => ?_, next hr (ki.trans hn)⟩) (po Q)); rcases hds with e | e
       · exact PN (hko e)
       · exact absurd e Ij
     · simp only [hw, Bool.false_eq_true, if_false]; exact ⟨fun _ => gZ.refl w, next uL ((pH _ _ _).trans hn)⟩
   refine ⟨fun hb => ?_, fun hb => ⟨fuel, rfl, fun j hj => ?_⟩⟩
   · obtain ⟨Sz, eP⟩ := first _ hb; have Re := (vU hl i).1 Sz; unfold j4 at hb; rw [Bool.and_eq_true, Bool.and_eq_true] at hb; obtain ⟨_, Kp, _⟩ := hb; have alone : E9 ops.toList ops.size ls i = true → (kd = .one ∨ i ∈ ds) → mQ P .any ops Q ds (fuel + 1) aM a w := by
       intro hal hds; refine ⟨fun e => absurd Re (by rw [e]; exact List.not_mem_nil), fun j hj => ?_⟩; have := GX hl hal j hj; subst this; exact step Sz eP hds
     obtain ⟨_, o, Km, _⟩ := mem_ready.1 Re; have bX : i < ops.size := (Array.getElem?_eq_some_iff.1 Km).1; unfold rh at hv; rw [fK, Array.getElem?_toList, Km] at hv; obtain ⟨Ps, hv⟩ := aH hv; rw [N.fold_eq] at hv; obtain ⟨aP, h1, h2⟩ := Option.bind_eq_some_iff.1 hv; have IA : ∀ k, o.dst = some k → k < a.tmps.size := fun k hk => by rw [hn]; exact zn ug (by rw [Array.mem_toList_iff]; exact Array.mem_of_getElem? Km) k hk
     have next : ∀ {c' : Cz} {a' : Act} {w' : World}, Rel w0 mu c' aP a' w' → a'.tmps.size = n → mQ P .any ops Q ds fuel (aM.setIfInBounds i true) a' w' := fun hr KV =>
       (uS hT hE Dj hQ hk P1 ug l (i :: ls) _ fuel (hl.push bX) (hs.set Re) hf hr KV h2).1 eP
     have GV := Region.noSelect_spec P1
     cases kd with
     | one => exact alone (by simpa using Kp) (.inl rfl)
     | last =>
       simp only [Bool.false_or, Bool.and_eq_true] at Kp; exact alone Kp.1 (.inr (yx ds Kp.2))
     | any =>
       simp only [Bool.not_false, Bool.true_and] at Kp; obtain ⟨v, hy, uL⟩ := yw (P := P) (ops := ops) (C := fun _ => True) h IA h1 (fun e => by
         obtain ⟨v, g1, g2⟩ := J8 hT hE h Ps e IA; exact ⟨v, fun w' _ => g1 w', g2⟩)
       refine IH Km GV (fun c a w hq => absurd hq (hQ _ _ _)) fuel aM a w (Cd hl Km Kp) Re ?_ (next uL ((pH _ _ _).trans hn)); rcases hy with ⟨g1, g2⟩ | g
       · exact .inl ⟨g1, fun w' => g2 w' trivial⟩
       · exact .inr g
     | take =>
       simp only [Bool.not_false, Bool.true_and, Bool.and_eq_true] at Kp; obtain ⟨v, hy, uL⟩ := yw (P := P) (ops := ops) (C := gZ w) h IA h1 (fun e => P0 hT h Ps e IA); refine E7 Km GV (fun c a w hq => absurd hq (hQ _ _ _)) ops.size fuel aM a w (Cd hl Km Kp.1) hs (fun d hm F1 => ?_) Re hy (gZ.refl w) (next uL ((pH _ _ _).trans hn)); have h3 := List.all_eq_true.1 Kp.2 d hm; rw [hl.gt d, Bool.or_eq_false_iff] at F1; rw [F1.1, Bool.false_or] at h3; exact h3
   · have hj : j = i := by simpa [Pl.ca] using hj
     subst hj; obtain ⟨Sz, eP⟩ := first _ hb; refine ⟨(vU hl j).1 Sz, step Sz eP ?_⟩; unfold j4 at hb; rw [Bool.and_eq_true, Bool.and_eq_true] at hb; obtain ⟨_, Kp, _⟩ := hb
     cases kd with
     | one => exact .inl rfl
     | last =>
       simp only [Bool.true_or, Bool.true_and] at Kp; exact .inr (yx ds Kp)
     | any => simp at Kp
     | take => simp at Kp
 | .alt p q, ls, aM, fuel, c, st, a, w, hl, hs, hf, h, hn, hv => by
   have hv : both (rh T S ops.toList p st k) (rh T S ops.toList q st k) = some r := hv; obtain ⟨xL, Iv⟩ := KN hv; have hf : Nat.max p.depth q.depth ≤ fuel := hf; have hp := (uS (ds := ds) hT hE Dj hQ hk P1 ug p ls aM fuel hl hs (Nat.le_trans (Nat.le_max_left _ _) hf) h hn xL).2; have hq := (uS (ds := ds) hT hE Dj hQ hk P1 ug q ls aM fuel hl hs (Nat.le_trans (Nat.le_max_right _ _) hf) h hn Iv).2; have ca : j4 ops ops.toList ops.size ds true ls p = true → j4 ops ops.toList ops.size ds true ls q = true → ∃ GY, fuel = GY + 1 ∧ ∀ i ∈ p.ca ++ q.ca, i ∈ Region.ready .any ops aM ∧ wpOp P ops Q i (fun a' w' => (i ∉ ds → gZ w w') ∧ mQ P .any ops Q ds GY (aM.setIfInBounds i true) a' w') a w := by
     intro h1 h2; obtain ⟨f1, e1, g1⟩ := hp h1; obtain ⟨f2, e2, g2⟩ := hq h2; have : f1 = f2 := by omega
     subst this; exact ⟨f1, e1, fun i hi => (List.mem_append.1 hi).elim (g1 i) (g2 i)⟩
   have parts : ∀ al, j4 ops ops.toList ops.size ds al ls (.alt p q) = true → (al || NU ops.toList ops.size ls (p.ca ++ q.ca)) = true ∧ j4 ops ops.toList ops.size ds true ls p = true ∧ j4 ops ops.toList ops.size ds true ls q = true := by
     intro al hb; unfold j4 at hb; rw [Bool.and_eq_true, Bool.and_eq_true] at hb; exact hb
   refine ⟨fun hb => ?_, fun hb => ?_⟩
   · obtain ⟨hc, h1, h2⟩ := parts _ hb; obtain ⟨f, rfl, g⟩ := ca h1 h2; have aaX : ∀ j ∈ Region.ready .any ops aM, j ∈ p.ca ++ q.ca := by
       intro j hj; have bX : j < ops.size := by
         obtain ⟨_, o, ho, _⟩ := mem_ready.1 hj; exact (Array.getElem?_eq_some_iff.1 ho).1
       rw [Bool.false_or] at hc; have h1 := List.all_eq_true.1 hc j (List.mem_range.2 bX); rw [(vU hl j).2 hj, Bool.not_true, Bool.false_or] at h1; exact yx _ h1
     refine ⟨fun e => ?_, fun j hj => (g j (aaX j hj)).2⟩; have fE : ∃ i, i ∈ p.ca ++ q.ca := by
       have key : ∀ (l : Pl), j4 ops ops.toList ops.size ds true ls l = true → ∃ i, i ∈ l.ca := by
         intro l
         induction l with
         | nil => intro h; simp [j4] at h
         | op i _ _ _ => intro _; exact ⟨i, by simp [Pl.ca]⟩
         | alt p q ih _ =>
           intro h; unfold j4 at h; rw [Bool.and_eq_true, Bool.and_eq_true] at h; obtain ⟨i, hi⟩ := ih h.2.1; exact ⟨i, List.mem_append_left _ hi⟩
       obtain ⟨i, hi⟩ := key p h1; exact ⟨i, List.mem_append_left _ hi⟩
     obtain ⟨i, hi⟩ := fE; have := (g i hi).1; rw [e] at this
     cases this
   · obtain ⟨_, h1, h2⟩ := parts _ hb; exact ca h1 h2
theorem rS {R : Type} {P : Program} {T : kh} (hT : fG P T) (hE : uf P T) (hm : P.follows .mixedOrders = true) {S : jC} {D : jU} {w0 : World} {mu : Mu} {n : Nat} (Dj : qS P T S w0 mu n) :
   pr R P T S D w0 mu n (fun id ops => Cc ops (D id) = true) := by
 intro id ops Q k r fF ug hk c st a w h hn hv; unfold Cc at fF; rw [Bool.and_eq_true, Bool.and_eq_true] at fF; obtain ⟨P1, hlen, hb⟩ := fF
 let Q' : Exit → Act → World → Prop := fun e a w => e = .normal ∧ Q .normal a w
 have key : (Code.region id ops true).wp P Q' a w := by
   refine wp_region_any hm (wx _ _ _ _ ((uS hT hE Dj (ds := Eh (D id)) (Q := Q') (fun c a w hq => by cases hq.1) (fun {c st a w} g1 g2 g3 => ⟨rfl, hk g1 g2 g3⟩) P1 ug (D id) [] _ ops.size (Pq.none _) (rq.none _ _ _) (Nat.le_of_ble_eq_true hlen) h.drew hn hv).1 hb))
 exact Code.wp_mono (fun e a w hq => by obtain ⟨rfl, hq⟩ := hq; exact hq) key
end Go.TM
namespace Go.TM
open Go Go.RowKit
abbrev P2 : RT → Type → Type
 | .nil, R => R
 | .cons t r, R => den t → P2 r R
abbrev nP {R : Type} : (r : RT) → P2 r R → aq r → R
 | .nil, f, _ => f
 | .cons _ r, f, x => nP r (f x.1) x.2
def kE : jU := fun _ => .nil
def VZ {R : Type} : l5 R := fun _ _ _ _ => none
def NV (f : Func) : Code := match f.body with | some c => c | none => .skip
def nn : Nat → List (Option AP)
 | 0 => []
 | n + 1 => none :: nn n
structure Rec where
 size : Nat
 agg : Bool
 b9 : List (Nat × Nat)
 row : Option RT
 elem : Option (RT × Nat)
 kind : Option Ty
 jS : List Nat
 eq : Bool
 dp : Bool := false
 cap : Bool := false
inductive Tr where
 | leaf
 | node (l : Tr) (k : Nat) (v : Rec) (r : Tr)
def Tr.flat : Tr → Tr
 | .leaf => .leaf
 | .node l k v r => .node l.flat k { v with dp := false } r.flat
def Tr.nest : Tr → Tr
 | .leaf => .leaf
 | .node l k v r => .node l.nest k { v with dp := v.dp && (match v.elem with | some (q, _) => Nat.beq q.width 1 | none => false) } r.nest
def Tr.uq (l : List Nat) : Tr → Tr
 | .leaf => .leaf
 | .node a k v b => .node (a.uq l) k { v with cap := l.any (Nat.beq k) } (b.uq l)
def Tr.find : Tr → Nat → Option Rec
 | .leaf, _ => none
 | .node l k v r, t => bif Nat.beq t k then some v else bif Nat.blt t k then l.find t else r.find t
def Tr.all (p : Nat → Rec → Bool) : Tr → Bool
 | .leaf => true
 | .node l k v r => l.all p && (p k v && r.all p)
theorem Tr.yy {p : Nat → Rec → Bool} : (tr : Tr) → tr.all p = true → ∀ {t v}, tr.find t = some v → p t v = true
 | .leaf, _, _, _, h => by cases h
 | .node l k v r, h, t, u, hf => by
   unfold Tr.all at h; rw [Bool.and_eq_true, Bool.and_eq_true] at h; unfold Tr.find at hf
   cases hb : Nat.beq t k with
   | true =>
     rw [hb] at hf; injection hf with hf; subst hf; rw [Nat.eq_of_beq_eq_true hb]; exact h.2.1
   | false =>
     rw [hb] at hf
     cases hl : Nat.blt t k with
     | true => rw [hl] at hf; exact Tr.yy l h.1 hf
     | false => rw [hl] at hf; exact Tr.yy r h.2.2 hf
def jJ (tr : Tr) : kh where
 cells t := (tr.find t).map (·.size)
 agg t := match tr.find t with | some r => r.agg | none => false
 off t f := match tr.find t with | some r => (nth r.b9 f).map (·.1) | none => none
 Wj t f := match tr.find t with | some r => (nth r.b9 f).map (·.2) | none => none
 row t := match tr.find t with | some r => r.row | none => none
 elem t := match tr.find t with | some r => r.elem | none => none
 lU _ := none
 kind t := match tr.find t with | some r => r.kind | none => none
 one t f := match tr.find t with | some r => r.jS.any (Nat.beq f) | none => false
 eq t := match tr.find t with | some r => r.eq | none => false
 dp t := match tr.find t with | some r => r.dp | none => false
 cap t := match tr.find t with | some r => r.cap | none => false
def lG : RT → List Value → Bool
 | .nil, [] => true
 | .cons (.int k) r, .int l n :: vs => decide (k = l) && decide (n = 0) && lG r vs
 | .cons .bool r, .bool b :: vs => !b && lG r vs
 | .cons .str r, .string s :: vs => (match s.data.toList with | [] => true | _ => false) && lG r vs
 | .cons (.sl _) r, .slice none 0 0 :: vs => lG r vs
 | _, _ => false
theorem rT : (r : RT) → (vs : List Value) → lG r vs = true → iu r vs
 | .nil, [], _ => rfl
 | .nil, _ :: _, h => by simp [lG] at h
 | .cons t r, [], h => by cases t <;> simp [lG] at h
 | .cons t r, v :: vs, h => by
   cases t with
   | int k =>
     cases v <;> try (simp [lG] at h; done)
     rename_i l n; simp only [lG, Bool.and_eq_true, decide_eq_true_eq] at h; obtain ⟨⟨rfl, rfl⟩, h⟩ := h; exact ⟨vs, rfl, rT r vs h⟩
   | bool =>
     cases v <;> try (simp [lG] at h; done)
     rename_i b; simp only [lG, Bool.and_eq_true, Bool.not_eq_true'] at h; obtain ⟨rfl, h⟩ := h; exact ⟨vs, rfl, rT r vs h⟩
   | str =>
     cases v <;> try (simp [lG] at h; done)
     rename_i s; simp only [lG, Bool.and_eq_true] at h; obtain ⟨h1, h⟩ := h; refine ⟨vs, ?_, rT r vs h⟩; obtain ⟨d⟩ := s; obtain ⟨d⟩ := d
     cases d with
     | nil => rfl
     | cons _ _ => simp at h1
   | sl q =>
     cases v <;> try (simp [lG] at h; done)
     rename_i a n m
     cases a with
     | some _ => simp [lG] at h
     | none => cases n with
       | succ _ => simp [lG] at h
       | zero => cases m with
         | succ _ => simp [lG] at h
         | zero =>
           have h : lG r vs = true := h; exact ⟨vs, rfl, rT r vs h⟩
def qU {α : Type} (o : Option α) (p : α → Bool) : Bool := match o with | some x => p x | none => false
theorem fa {α : Type} {o : Option α} {p : α → Bool} (h : qU o p = true) : ∃ x, o = some x ∧ p x = true := by
 cases o with
 | none => cases h
 | some x => exact ⟨x, rfl, h⟩
def sJ (P : Program) : List Field → List (Nat × Nat) → Bool
 | [], [] => true
 | f :: fs, (o, s) :: ps => Nat.beq f.offset o && (qU (P.info? f.type) (fun i => Nat.beq i.size s) && (Nat.blt 0 s && sJ P fs ps))
 | _, _ => false
theorem wO {P : Program} : (fs : List Field) → (ps : List (Nat × Nat)) → sJ P fs ps = true →
   fs.mapM (fun f => (P.info? f.type).map fun i => (f.offset, i.size)) = some ps ∧ ∀ (k : Nat) p, ps[k]? = some p → ∃ DQ n, fs[k]? = some DQ ∧ DQ.offset = p.1 ∧ (P.info? DQ.type).map (·.size) = some (n + 1)
 | [], [], _ => ⟨rfl, fun k p h => by simp at h⟩
 | [], _ :: _, h => by simp [sJ] at h
 | _ :: _, [], h => by simp [sJ] at h
 | f :: fs, (o, s) :: ps, h => by
   unfold sJ at h; rw [Bool.and_eq_true, Bool.and_eq_true, Bool.and_eq_true] at h; obtain ⟨h1, h2, h3, h4⟩ := h; obtain ⟨i, hi, Xb⟩ := fa h2; have h1 := Nat.eq_of_beq_eq_true h1; have Xb := Nat.eq_of_beq_eq_true Xb; obtain ⟨g1, g2⟩ := wO fs ps h4; refine ⟨by simp [List.mapM_cons, hi, g1, h1, Xb], fun k p hp => ?_⟩
   cases k with
   | zero =>
     simp at hp; subst hp; have h3 : 0 < s := Nat.le_of_ble_eq_true h3; exact ⟨f, s - 1, rfl, h1, by rw [hi]; simp [Xb]; omega⟩
   | succ k => exact g2 k p (by simpa using hp)
def GZ (P : Program) (t : Nat) : Ty → Bool
 | .int k => qU (P.underlying t) fun | .int l => decide (k = l) | _ => false
 | .bool => qU (P.underlying t) fun | .bool => true | _ => false
 | .str => qU (P.underlying t) fun | .string => true | _ => false
 | .sl _ => false
def Fa (P : Program) (t : Nat) (r : Rec) : Bool :=
 qU (P.info? t) (fun i => Nat.beq i.size r.size && (match r.row with | some q => qU i.zero (fun z => lG q z.cells.toList) | none => true)) &&
 (qU (P.underlying t) (fun d => (d.isRow == r.agg) && (bif r.agg then true else Nat.beq r.size 1) && (match d with | .struct fs => bif r.agg then sJ P fs.toList r.b9 else Nat.beq r.b9.length 0 | _ => !r.agg && Nat.beq r.b9.length 0)
     && (match r.elem with | some (q, b) => (match d with | .slice e => qU (P.info? e) (fun i => Nat.beq i.size q.width && (Nat.blt 0 q.width && (Nat.beq i.bytes b && (Nat.blt 0 b && qU i.zero (fun z => lG q z.cells.toList))))) | _ => false) | none => true)) &&
 ((match r.kind with | some k => GZ P t k | none => true) && (match r.elem with | some (.cons (.int .u8) .nil, _) => qU (P.underlying t) (fun d => match d with | .slice e => GZ P e (.int .u8) | _ => false) | _ => true)))
def Rf (P : Program) (t : Nat) (l : List Nat) : Bool := l.all fun f => qU (P.underlying t) fun d => match d with | .struct fs => qU fs[f]? (fun DQ => qU (P.underlying DQ.type) fun e => !e.isRow) | _ => false
def tW (P : Program) (t : Nat) (r : Rec) : Bool := Fa P t r && Rf P t r.jS
theorem jE {P : Program} {tr : Tr} (h : tr.all (tW P) = true) : fG P (jJ tr) := by
 have Xc : ∀ {t r}, tr.find t = some r → tW P t r = true := fun hf => Tr.yy tr h hf
 have get : ∀ {t r}, tr.find t = some r → Fa P t r = true := fun hf => (Bool.and_eq_true _ _ ▸ Xc hf).1
 have base : ∀ {t r}, tr.find t = some r → (∃ i, P.info? t = some i ∧ i.size = r.size ∧ ∀ q, r.row = some q → ∃ z, i.zero = some z ∧ iu q z.cells.toList) ∧
     (∃ d, P.underlying t = some d ∧ d.isRow = r.agg ∧ (r.agg = false → r.size = 1) ∧ (r.b9 ≠ [] ∨ r.agg = true → ∃ fs, d = .struct fs ∧ sJ P fs.toList r.b9 = true) ∧
       ∀ q b, r.elem = some (q, b) → ∃ e i z, d = .slice e ∧ P.info? e = some i ∧ i.size = q.width ∧ 0 < q.width ∧ i.bytes = b ∧ 0 < b ∧ i.zero = some z ∧ iu q z.cells.toList) ∧
     ∀ k, r.kind = some k → GZ P t k = true := by
   intro t r hf; have h1 := get hf; unfold Fa at h1; rw [Bool.and_eq_true, Bool.and_eq_true, Bool.and_eq_true] at h1; obtain ⟨h1, h2, h3, _⟩ := h1; obtain ⟨i, hi, h4⟩ := fa h1; rw [Bool.and_eq_true] at h4; obtain ⟨d, hd, h5⟩ := fa h2; rw [Bool.and_eq_true, Bool.and_eq_true, Bool.and_eq_true] at h5; obtain ⟨⟨⟨g1, g2⟩, g3⟩, g4⟩ := h5; refine ⟨⟨i, hi, Nat.eq_of_beq_eq_true h4.1, fun q hq => ?_⟩, ⟨d, hd, by simpa using g1, fun Kj => ?_, fun fE => ?_, fun q b he => ?_⟩, fun k hk => ?_⟩
   · have h6 := h4.2; rw [hq] at h6; obtain ⟨z, hz, h7⟩ := fa h6; exact ⟨z, hz, rT q _ h7⟩
   · rw [Kj] at g2; exact Nat.eq_of_beq_eq_true g2
   · cases Kj : r.agg with
     | true =>
       rw [Kj] at g3
       cases d with
       | struct fs => exact ⟨fs, rfl, g3⟩
       | _ => simp at g3
     | false =>
       rw [Kj] at g3; rcases fE with fE | fE
       · have : Nat.beq r.b9.length 0 = true := by
           cases d with
           | struct fs => exact g3
           | _ => simpa using g3
         exact absurd (List.length_eq_zero_iff.1 (Nat.eq_of_beq_eq_true this)) fE
       · rw [Kj] at fE; cases fE
   · rw [he] at g4
     cases d with
     | slice e =>
       obtain ⟨i, h6, h7⟩ := fa g4; rw [Bool.and_eq_true, Bool.and_eq_true, Bool.and_eq_true, Bool.and_eq_true] at h7; obtain ⟨k1, k2, k3, k4, k5⟩ := h7; obtain ⟨z, hz, h8⟩ := fa k5; exact ⟨e, i, z, rfl, h6, Nat.eq_of_beq_eq_true k1, Nat.le_of_ble_eq_true k2, Nat.eq_of_beq_eq_true k3, Nat.le_of_ble_eq_true k4, hz, rT q _ h8⟩
     | _ => cases g4
   · rw [hk] at h3; exact h3
 have look : ∀ {α : Type} {t : Nat} {g : Rec → Option α} {x : α}, (match tr.find t with | some r => g r | none => none) = some x → ∃ r, tr.find t = some r ∧ g r = some x := by
   intro α t g x hx
   cases hf : tr.find t with
   | none => rw [hf] at hx; cases hx
   | some r => rw [hf] at hx; exact ⟨r, rfl, hx⟩
 have Xd : ∀ {t : Nat} {g : Rec → Bool}, (match tr.find t with | some r => g r | none => false) = true → ∃ r, tr.find t = some r ∧ g r = true := by
   intro t g hx
   cases hf : tr.find t with
   | none => rw [hf] at hx; cases hx
   | some r => rw [hf] at hx; exact ⟨r, rfl, hx⟩
 exact {
   cells := fun t n ht => by
     obtain ⟨r, hf, rfl⟩ := Option.map_eq_some_iff.1 ht; obtain ⟨⟨i, hi, hs, _⟩, _⟩ := base hf; rw [hi]; simp [hs]
   agg := fun t n ht => by
     obtain ⟨r, hf, rfl⟩ := Option.map_eq_some_iff.1 ht; obtain ⟨_, ⟨d, hd, h1, h2, _⟩, _⟩ := base hf; have e : (jJ tr).agg t = r.agg := by show (match tr.find t with | some r => r.agg | none => false) = _; rw [hf]
     exact ⟨d, hd, h1.trans e.symm, fun h => h2 (e ▸ h)⟩
   off := fun t f k ht => by
     obtain ⟨r, hf, hk⟩ := look ht; obtain ⟨p, hp, rfl⟩ := Option.map_eq_some_iff.1 hk; obtain ⟨_, ⟨d, hd, _, _, h3, _⟩, _⟩ := base hf; rw [fK] at hp; obtain ⟨fs, rfl, hfs⟩ := h3 (.inl (by intro e; rw [e] at hp; simp at hp)); obtain ⟨DQ, n, g1, g2, g3⟩ := (wO fs.toList r.b9 hfs).2 f p hp; exact ⟨fs, DQ, n, hd, by simpa using g1, g2, g3⟩
   bld := fun t ht => by
     obtain ⟨r, hf, Kj⟩ := Xd (g := fun r => r.agg) ht; obtain ⟨_, ⟨d, hd, _, _, h3, _⟩, _⟩ := base hf; obtain ⟨fs, rfl, hfs⟩ := h3 (.inr Kj); refine ⟨fs, r.b9, hd, (wO fs.toList r.b9 hfs).1, fun f o s ho hs => ?_⟩; have ho : (match tr.find t with | some r => (nth r.b9 f).map (·.1) | none => none) = some o := ho; have hs : (match tr.find t with | some r => (nth r.b9 f).map (·.2) | none => none) = some s := hs; rw [hf] at ho hs; obtain ⟨p, hp, rfl⟩ := Option.map_eq_some_iff.1 ho; obtain ⟨p', jZ, rfl⟩ := Option.map_eq_some_iff.1 hs; rw [hp] at jZ; injection jZ with e; subst e; rw [fK] at hp; exact hp
   row := fun t q ht => by
     obtain ⟨r, hf, hk⟩ := look (g := fun r => r.row) ht; obtain ⟨⟨i, hi, _, h1⟩, _⟩ := base hf; obtain ⟨z, hz, HY⟩ := h1 q hk; exact ⟨i, z, hi, hz, HY⟩
   elem := fun t q b ht => by
     obtain ⟨r, hf, hk⟩ := look (g := fun r => r.elem) ht; obtain ⟨_, ⟨d, hd, _, _, _, h4⟩, _⟩ := base hf; obtain ⟨e, i, z, rfl, h5⟩ := h4 q b hk; exact ⟨e, i, z, hd, h5⟩
   u8 := fun t e b ht hu => by
     obtain ⟨r, hf, hk⟩ := look (g := fun r => r.elem) ht; have h1 := get hf; unfold Fa at h1; rw [Bool.and_eq_true, Bool.and_eq_true, Bool.and_eq_true] at h1; have h2 := h1.2.2.2; rw [hk] at h2; obtain ⟨d, hd, h3⟩ := fa h2; rw [hu] at hd; injection hd with hd; subst hd; obtain ⟨d2, hd2, h4⟩ := fa h3; rw [hd2]
     cases d2 <;> simp at h4
     rw [← h4]
   one := fun t f ht => by
     have ht : (match tr.find t with | some r => r.jS.any (Nat.beq f) | none => false) = true := ht
     cases hf : tr.find t with
     | none => rw [hf] at ht; cases ht
     | some r =>
       rw [hf] at ht; have h2 : Rf P t r.jS = true := (Bool.and_eq_true _ _ ▸ Xc hf).2; obtain ⟨g, hg, hb⟩ := List.any_eq_true.1 ht; have hb := Nat.eq_of_beq_eq_true hb; subst hb; have h3 := List.all_eq_true.1 h2 f hg; obtain ⟨d, hd, h4⟩ := fa h3
       cases d with
       | struct fs =>
         obtain ⟨DQ, aaZ, h5⟩ := fa h4; obtain ⟨e, he, h6⟩ := fa h5; exact ⟨fs, DQ, e, hd, aaZ, he, by simpa using h6⟩
       | _ => cases h4
   kind := fun t y ht => by
     obtain ⟨r, hf, hk⟩ := look (g := fun r => r.kind) ht; have h1 := (base hf).2.2 y hk
     cases y with
     | int k =>
       obtain ⟨d, hd, h2⟩ := fa h1; refine ⟨d, hd, ?_⟩
       cases d <;> simp at h2
       rw [h2]; rfl
     | bool =>
       obtain ⟨d, hd, h2⟩ := fa h1; refine ⟨d, hd, ?_⟩
       cases d <;> simp at h2
       rfl
     | str =>
       obtain ⟨d, hd, h2⟩ := fa h1; refine ⟨d, hd, ?_⟩
       cases d <;> simp at h2
       rfl
     | sl _ => cases h1 }
end Go.TM
