/- A machine over trees: an evaluator of the code, and that what it finds is so; part 3. -/
import Derived.Test.YtiljcjnnhkidbaaGreatTm2
import Derived.Laws.Sem
import Derived.Deep.LoopGhost
import Derived.OrdersHeld
import Derived.KernelRfl
set_option linter.unusedSimpArgs false
set_option linter.unusedVariables false
namespace Go.TM
open Go Go.RowKit
theorem BS {st : St} {own : Bool} : (cs : List CV) → {os : List OV} → {u : List (Option Lb)} → {r : List (Nat × Nat)} → fc st own cs = some (os, u, r) → ∀ l ∈ cn u, l ∈ cs.filterMap fun x => match x with | .ref a j _ _ => some (Lb.sp a j) | _ => none
 | [], _, _, _, h => by
   simp only [fc, Option.some.injEq, Prod.mk.injEq] at h; obtain ⟨_, rfl, _⟩ := h; simp [cn]
 | x :: cs, os, u, r, h => by
   unfold fc at h
   cases hc : gk st own x with
   | none => simp [hc] at h
   | some p =>
     obtain ⟨o, u1, r1⟩ := p
     cases hq : fc st own cs with
     | none => simp [hc, hq] at h
     | some q =>
       obtain ⟨w6, us, rs⟩ := q; simp only [hc, hq, Option.some.injEq, Prod.mk.injEq] at h; obtain ⟨_, rfl, _⟩ := h; intro l hl; rw [gR] at hl; rcases List.mem_cons.1 hl with hl | hl
       · refine List.mem_filterMap.2 ⟨x, List.mem_cons_self, ?_⟩
         cases x with
         | ref a j g w =>
           unfold gk at hc; simp only at hc
           cases hA : bd st a j g with
           | none => simp [hA] at hc
           | some A =>
             simp only [hA] at hc
             cases hm : A.md.Ct with
             | true => simp [hm] at hc
             | false =>
             simp only [hm, cond_false] at hc
             cases hb : (own && A.own && (A.md.is .sh || w.isFull)) <;> simp only [hb, cond_true, cond_false, Option.some.injEq, Prod.mk.injEq] at hc <;> obtain ⟨_, rfl, _⟩ := hc
             · cases hl
             · exact hl.symm
         | pL a j g e i k q ys =>
           unfold gk at hc; simp only at hc
           cases hA : bd st a j g with
           | none => simp [hA] at hc
           | some A =>
             simp only [hA] at hc; obtain ⟨_, hc⟩ := aI hc; simp only [Option.some.injEq, Prod.mk.injEq] at hc; obtain ⟨_, rfl, _⟩ := hc
             cases hl
         | k9 q y off => obtain ⟨_, rfl, _⟩ := uK hc; cases hl
         | rM q y off => obtain ⟨_, rfl, _⟩ := sD hc; cases hl
         | _ =>
           simp only [gk, Option.some.injEq, Prod.mk.injEq, reduceCtorEq] at hc
           all_goals (obtain ⟨_, rfl, _⟩ := hc; cases hl)
       · have := BS cs hq l (gR.2 hl); obtain ⟨y, h1, h2⟩ := List.mem_filterMap.1 this; exact List.mem_filterMap.2 ⟨y, List.mem_cons_of_mem _ h1, h2⟩
theorem FL {st : St} {m : Pm} {v : V} {av : AV} {u q : List Lb} {r : List (Nat × Nat)} (h : eo st m v = some (av, u, q, r)) : ∀ l ∈ u, (l ∈ q ∧ ∃ s j, l = .sp s j) ∨ l ∈ xY m v := by
 have single : ∀ own cs, (match fc st own cs with | some (os, u, r) => some (AV.val false os, cn u, cn u, r) | none => none) = some (av, u, q, r) → ∀ l ∈ u, (l ∈ q ∧ ∃ s j, l = .sp s j) ∨ l ∈ xY m v := by
   intro own cs h
   cases hq : fc st own cs with
   | none => simp [hq] at h
   | some p =>
     obtain ⟨os, us, rs⟩ := p; simp only [hq, Option.some.injEq, Prod.mk.injEq] at h; obtain ⟨_, rfl, rfl, _⟩ := h; exact fun l hl => .inl ⟨hl, vv cs hq l hl⟩
 cases v with
 | nb _ => simp [eo] at h
 | agg cs =>
   have other : (match fc st m.ob cs with | some (os, u, r) => some (AV.val true os, cn u, cn u, r) | none => none) = some (av, u, q, r) → ∀ l ∈ u, (l ∈ q ∧ ∃ s j, l = .sp s j) ∨ l ∈ xY m (.agg cs) := by
     intro h
     cases hq : fc st m.ob cs with
     | none => simp [hq] at h
     | some p =>
       obtain ⟨os, us, rs⟩ := p; simp only [hq, Option.some.injEq, Prod.mk.injEq] at h; obtain ⟨_, rfl, rfl, _⟩ := h; exact fun l hl => .inl ⟨hl, vv cs hq l hl⟩
   unfold eo at h
   cases m with
   | shr => exact other h
   | own => exact other h
   | pick _ => exact other h
   | io => exact other h
   | bQ =>
     simp only at h
     cases hq : fc st true cs with
     | none => simp [hq] at h
     | some p =>
       obtain ⟨os, us, rs⟩ := p; simp only [hq] at h; obtain ⟨_, h1⟩ := aI h; simp only [Option.some.injEq, Prod.mk.injEq] at h1; obtain ⟨_, rfl, _, _⟩ := h1; exact fun l hl => .inr (BS cs hq l hl)
 | one cx =>
   cases cx with
   | ptr b g off =>
     unfold eo at h; simp only at h
     cases hb : dE st b g with
     | none => simp [hb] at h
     | some cs =>
       simp only [hb] at h
       cases hq : fc st true cs with
       | none => simp [hq] at h
       | some p =>
         obtain ⟨os, us, rs⟩ := p; simp only [hq] at h; obtain ⟨_, h1⟩ := aI h; simp only [Option.some.injEq, Prod.mk.injEq] at h1; obtain ⟨_, rfl, rfl, _⟩ := h1; intro l hl; rcases List.mem_cons.1 hl with rfl | hl
         · exact .inr (by simp [xY])
         · exact .inl ⟨hl, vv cs hq l hl⟩
   | ref s j g vw =>
     unfold eo at h
     cases m with
     | shr => exact single _ _ h
     | own => exact single _ _ h
     | pick _ => exact single _ _ h
     | bQ => exact single _ _ h
     | io =>
       cases vw with
       | full =>
         cases hA : bd st s j g with
         | none => simp [hA] at h
         | some A =>
           simp only [hA] at h; obtain ⟨_, h1⟩ := aI h; simp only [Option.some.injEq, Prod.mk.injEq] at h1; obtain ⟨_, rfl, _, _⟩ := h1; exact fun l hl => .inr (by simpa [xY] using hl)
       | «from» _ => simp at h
       | sub _ _ => simp at h
   | _ =>
     unfold eo at h; simp only at h
     split at h
     · rename_i os us rs hq; simp only [Option.some.injEq, Prod.mk.injEq] at h; obtain ⟨_, rfl, rfl, _⟩ := h; exact fun l hl => .inl ⟨hl, vv _ hq l hl⟩
     · cases h
theorem Aq {st : St} : (ms : List (Pm × V)) → {eA : List AV} → {u q : List Lb} → {r : List (Nat × Nat)} → iM st ms = some (eA, u, q, r) → ∀ l ∈ u, (l ∈ q ∧ ∃ s j, l = .sp s j) ∨ ∃ m ∈ ms, l ∈ xY m.1 m.2
 | [], _, _, _, _, h => by
   simp only [iM, Option.some.injEq, Prod.mk.injEq] at h; obtain ⟨_, rfl, _⟩ := h; simp
 | (m, v) :: ms, eA, u, q, r, h => by
   unfold iM at h
   cases h1 : eo st m v with
   | none => simp [h1] at h
   | some p1 =>
     obtain ⟨av, u1, q1, r1⟩ := p1
     cases h2 : iM st ms with
     | none => simp [h1, h2] at h
     | some p2 =>
       obtain ⟨Mj, u2, q2, r2⟩ := p2; simp only [h1, h2, Option.some.injEq, Prod.mk.injEq] at h; obtain ⟨rfl, rfl, rfl, rfl⟩ := h; intro l hl; rcases List.mem_append.1 hl with hl | hl
       · rcases FL h1 l hl with ⟨h3, h4⟩ | h3
         · exact .inl ⟨List.mem_append_left _ h3, h4⟩
         · exact .inr ⟨(m, v), List.mem_cons_self, h3⟩
       · rcases Aq ms h2 l hl with ⟨h3, h4⟩ | ⟨m', h3, h4⟩
         · exact .inl ⟨List.mem_append_right _ h3, h4⟩
         · exact .inr ⟨m', List.mem_cons_of_mem _ h3, h4⟩
theorem yM {st : St} : (ms : List (Pm × V)) → {eA : List AV} → {u q : List Lb} → {r : List (Nat × Nat)} → iM st ms = some (eA, u, q, r) → ∀ (k : Nat) (m : Pm × V) (av : AV), ms[k]? = some m → eA[k]? = some av → J9 st m av
 | [], _, _, _, _, _ => by intro k m av hm; simp at hm
 | (m, v) :: ms, eA, u, q, r, h => by
   unfold iM at h
   cases h1 : eo st m v with
   | none => simp [h1] at h
   | some p1 =>
     obtain ⟨av, u1, q1, r1⟩ := p1
     cases h2 : iM st ms with
     | none => simp [h1, h2] at h
     | some p2 =>
       obtain ⟨Mj, u2, q2, r2⟩ := p2; simp only [h1, h2, Option.some.injEq, Prod.mk.injEq] at h; obtain ⟨rfl, rfl, rfl, rfl⟩ := h; intro k m' G2 hm Eg
       cases k with
       | zero => simp at hm Eg; subst hm Eg; exact ⟨u1, q1, r1, h1⟩
       | succ k => exact yM ms h2 k m' G2 (by simpa using hm) (by simpa using Eg)
theorem HX (a b c : Pm) (l : List V) : (tU a b c l).map (·.2) = l := by
 rcases l with _ | ⟨x, _ | ⟨y, _ | ⟨z, l⟩⟩⟩ <;> simp [tU, Function.comp_def]
theorem Cz.wi : (m : List (Nat × Nat)) → (c : Cz) → {b : Nat} → {l : Lb} → c.own b = some l → (∀ p ∈ m, l ≠ .sp p.1 p.2) → (c.drop m).own b = some l
 | [], _, _, _, h, _ => h
 | (s, j) :: m, c, b, l, h, hm => Cz.wi m (c.drop1 s j) (Cz.qJ h (hm (s, j) List.mem_cons_self)) (fun p hp => hm p (List.mem_cons_of_mem _ hp))
def oL (P : Program) (S : ld) : Prop :=
 ∀ f a b c yy, S f = some (a, b, c, yy) → FnOk P f yy ∧ ∃ fn, P.funcs[f]? = some fn ∧ (fn.name == "runtime.NumGoroutine") = false ∧ fn.body.isNone = false
theorem Eh {P : Program} {w0 : World} {mu : Mu} {c : Cz} {st bf : St} {a : Act} {w : World} (h : Rel w0 mu c st a w) {o : Oper} {f : FuncId} {vals : Array Value} (rh : (execOp a.eval o).run P w = .ok (.enter f vals) w)
   {yy : vW} (Mm : FnOk P f yy) {ms : List (Pm × V)}
   (hlen : ms.length = vals.toList.length) (uO : ∀ (k : Nat) (m : Pm × V) (x : Value), ms[k]? = some m → vals.toList[k]? = some x → eF c st w m.2 x)
   {fin : St → N} (hv : (DK st o.dst yy ms fin).val = some bf) (hd : ∀ k, o.dst = some k → k < a.tmps.size) {kp : Bool} (Mi : kp = true → Ft st ms = true)
   (HY : ∀ (c5 : Cz) (hM : St) (a2 : Act) (w' : World), Rel w0 mu c5 hM a2 w' → Fw c st w c5 hM w' →
     (∀ eA u q r, iM st ms = some (eA, u, q, r) → ∀ b l, l.real = true → l ∉ u → (∀ p ∈ r, l ≠ .sp p.1 p.2) → c.own b = some l → w'.heap[b]? = w.heap[b]? ∧ c5.own b = some l) →
     (fin hM).val = some bf → ∃ c6, Rel w0 mu c6 bf a2 w') : uI P w0 mu bf o a w kp := by
   unfold DK at hv; unfold Ft at Mi
   cases he : iM st ms with
   | none => simp [he, N.val] at hv
   | some p =>
     obtain ⟨eA, u, q, r⟩ := p; simp only [he] at hv Mi; obtain ⟨hc, hv⟩ := dJ hv; rw [Bool.and_eq_true] at hc
     cases hs : yy eA with
     | none => simp [hs, N.val] at hv
     | some p =>
       simp only [hs] at hv
       cases Ys : p.o with
       | none => rw [Ys] at hv; cases hv
       | some x =>
       rw [Ys] at hv; have HZ := hv; clear hv; unfold N.val at HZ; simp only at HZ; generalize Aa : p.res x = res at HZ
       cases RD : s5 (pc (wI (bif res.plain then st else freeze st r)) q) ms res.exts with
       | none => simp [RD, N.val] at HZ
       | some zi =>
         simp only [RD] at HZ
         cases Yt : uq zi o.dst res.outs with
         | none => simp [Yt, N.val] at HZ
         | some hM =>
           simp only [Yt] at HZ; have HZ : (fin hM).val = some bf := HZ; obtain ⟨yN, hqu, tb, Kc, S3, Oh, hold⟩ := BQ h ms 0 _ hlen uO he; have FB := pf u yN hc.1; have Bh : ∀ p ∈ r, Lb.sp p.1 p.2 ∉ u := by
             intro p hp hm; have h1 := List.all_eq_true.1 hc.2 p hp; have h2 := List.all_eq_true.1 h1 _ hm; rw [(Lb.w8 rfl).2 rfl] at h2
             cases h2
           let lc : Nat → Nat → Loc := fun k => match ms[k]? with | some m => yK c m.2 | none => fun _ => .nil
           have sB := Classical.propDecidable
           let ρ : Lb → Option Lb := fun l => match look tb l with | some y => some y | none => if (∃ p ∈ r, l = .sp p.1 p.2) then none else some .out
           have xe : ∀ {l y}, look tb l = some y → l ∈ u ∧ y.j9 = true := by
             intro l y hl; have := vu tb hl; exact ⟨by rw [← Kc]; exact List.mem_map.2 ⟨_, this, rfl⟩, S3 _ this⟩
           have hρr : ∀ p ∈ r, ρ (.sp p.1 p.2) = none := by
             intro p hp; show (match look tb (.sp p.1 p.2) with | some y => some y | none => if (∃ p' ∈ r, Lb.sp p.1 p.2 = .sp p'.1 p'.2) then none else some .out) = none
             cases hl : look tb (.sp p.1 p.2) with
             | some y => exact absurd (xe hl).1 (Bh p hp)
             | none => simp only; rw [if_pos ⟨p, hp, rfl⟩]
           have hρt : ∀ p ∈ tb, ρ p.1 = some p.2 := by
             intro p hp; have := w9 tb (by rw [Kc]; exact FB) hp; show (match look tb p.1 with | some y => some y | none => _) = _; rw [this]
           have hρh : ∀ {l y}, ρ l = some y → y = .out ∨ (y.j9 = true ∧ l ∈ u) := by
             intro l y hl; have hl : (match look tb l with | some y => some y | none => if (∃ p ∈ r, l = .sp p.1 p.2) then none else some .out) = some y := hl
             cases hk : look tb l with
             | some z =>
               rw [hk] at hl
               cases hl
               exact .inr ⟨(xe hk).2, (xe hk).1⟩
             | none =>
               rw [hk] at hl; simp only at hl
               split at hl
               · cases hl
               · cases hl; exact .inl rfl
           have hρn : ∀ {l}, ρ l = none → ∃ p ∈ r, l = .sp p.1 p.2 := by
             intro l hl; have hl : (match look tb l with | some y => some y | none => if (∃ p ∈ r, l = .sp p.1 p.2) then none else some .out) = none := hl
             cases hk : look tb l with
             | some z => rw [hk] at hl; cases hl
             | none =>
               rw [hk] at hl; simp only at hl
               split at hl
               · assumption
               · cases hl
           let μ : Mu := { m := fun b => ∃ l, (c.map ρ).own b = some l ∧ l.j9 = true, ok := fun b => (c.map ρ).own b = none, an := [] }
           have hH : Handed (c.map ρ) w μ := {
             m := fun b => Iff.rfl
             ok := fun b => Iff.rfl
             lt := fun b l hb => by
               obtain ⟨k, hk, _⟩ := Cz.map_some hb; exact (h.owned b k hk).1
             lb := fun b l hb => by
               obtain ⟨k, hk, e⟩ := Cz.map_some hb; exact (hρh e).imp id (·.1) }
           have hA := hold ρ lc (fun k m hm => by simp only [Nat.zero_add, lc, hm]) hρt hρr; have yO := Mm (c.map ρ) w μ lc eA vals p x hH hA hs Ys; rw [Aa] at yO; intro Q; unfold Oper.wp; rw [rh, Oper.upon_enter]; refine yO.mono fun e w' Ke => ?_
           obtain ⟨v, rfl, c1, CO, hV, hX⟩ := Ke; obtain ⟨c2, s2, LN, Yu, Yv, hm2, Yw, Yx⟩ : ∃ (c2 : Cz) (s2 : St), (bif res.plain then st else freeze st r) = s2 ∧ Rel w0 mu c2 s2 a w ∧ Fw c st w c2 s2 w ∧ (∀ b, μ.m b → ∃ l, c2.own b = some l ∧ l ∈ u) ∧ (res.plain = true ∨ ∀ b, μ.ok b → c2.own b = none) ∧
               (∀ b l, (∀ p ∈ r, l ≠ .sp p.1 p.2) → c.own b = some l → c2.own b = some l) := by
             have hm : ∀ b, μ.m b → ∃ l, c.own b = some l ∧ l ∈ u := by
               rintro b ⟨l, hl, hh⟩
               obtain ⟨k, hk, e⟩ := Cz.map_some hl; rcases hρh e with e2 | e2
               · subst e2; cases hh
               · exact ⟨k, hk, e2.2⟩
             cases hp : res.plain with
             | true => exact ⟨c, st, rfl, h, Fw.refl c st w, hm, .inl rfl, fun _ _ _ h => h⟩
             | false =>
               refine ⟨c.drop r, freeze st r, rfl, Rel.freeze r h, Fw.freeze w r c st, fun b hb => ?_, .inr fun b hb => ?_, fun b l hl hb => Cz.wi r c hb hl⟩
               · obtain ⟨l, h1, h2⟩ := hm b hb; exact ⟨l, Cz.wi r c h1 (fun p hp e => Bh p hp (e ▸ h2)), h2⟩
               · have hb : (c.own b).bind ρ = none := hb
                 cases hk : c.own b with
                 | none => exact Cz.wN r c b hk
                 | some l =>
                   rw [hk] at hb; obtain ⟨p, hp, e⟩ := hρn hb; subst e; exact Cz.zB r c b hk hp
           rw [LN] at RD; obtain ⟨g1, g2, gfr, g3, g4⟩ := Yu.S0 CO (X := fun l => l ∈ u) hm2 (fun l hl e => by subst e; cases yN _ hl); have FM : (∀ b, c1.ok b → (c2.merge c1 w.heap.size μ.m).ok b) ∨ res.plain = true := by
             rcases Yw with h1 | h1
             · exact .inr h1
             · exact .inl (g4 h1)
           have Kf : res.plain = true → res.outs.all (fun o => o.uk.all OV.plain) = true ∧ res.exts.all XV.plain = true := by
             intro hp; unfold Xe.plain at hp
             rwa [Bool.and_eq_true] at hp
           have hV' : uJ (c2.merge c1 w.heap.size μ.m) w' res.outs v := hV.pass (fun b j => g3 b (.jw j) rfl) (FM.imp id fun hp => (Kf hp).1); have HT : jO (c2.merge c1 w.heap.size μ.m) w' lc 0 eA vals.toList res.exts := jO.pass eA 0 (fun b k _ => g3 b (.su k) rfl) (fun b k j _ => g3 b (.cI k j) rfl) _ _ (FM.imp id fun hp => (Kf hp).2) hX; obtain ⟨c3, k1, k2, k3⟩ := wh q g1; have S4 : ∀ b, (c2.merge c1 w.heap.size μ.m).ok b → c3.ok b := fun b hb => by unfold Cz.ok at *; rw [k3]; exact hb
           have hV3 : uJ c3 w' res.outs v := hV'.pass (fun b j hb => by rw [k3]; exact hb) (.inl S4); have hX3 : jO c3 w' lc 0 eA vals.toList res.exts := jO.pass eA 0 (fun b k _ hb => by rw [k3]; exact hb) (fun b k j _ hb => by rw [k3]; exact hb) _ _ (.inl S4) HT; obtain ⟨c4, l1, l2, l3⟩ := Ap ms 0 eA _ _ k1 ((Yv.trans g2).trans k2) uO (yM ms he) Oh.symm hlen (fun k m hm => by simp only [Nat.zero_add, lc, hm]) hX3 RD; have hV4 : uJ c4 w' res.outs v := hV3.pass (fun b j => l3.cI b (.jw j) (.inl ⟨j, rfl⟩)) (.inl l3.ok); obtain ⟨c5, n1, n2, n3⟩ := l1.laid hV4 Yt hd; have S5 : Rel w0 mu c5 hM (a.put o.dst v) w' := by
             refine (n1.mono (X' := fun _ => False) (fun l hl => ?_)).rel; obtain ⟨⟨Xo, S6⟩, Yy⟩ := hl; rcases Aq ms he l Xo with ⟨h1, s, j, e⟩ | ⟨m, h1, h2⟩
             · subst e; exact S6 s j h1 rfl
             · exact Yy m h1 h2
           obtain ⟨c6, hc6⟩ := HY c5 hM _ w' S5 (l2.trans n2) (fun Mj u' q' r' NR b l Xo S6 Yy hb => by
             rw [he] at NR; simp only [Option.some.injEq, Prod.mk.injEq] at NR; obtain ⟨rfl, rfl, rfl, rfl⟩ := NR; have Jr := Yx b l Yy hb; obtain ⟨f1, f2⟩ := gfr b l Jr S6; refine ⟨f1, n3 b l Xo (l3.cI b l (.inr Xo) ?_)⟩; rw [k3, f2]; exact Jr) HZ
           refine ⟨⟨c6, hc6, qK _ _ _⟩, fun Yz => ⟨CO.kept.2.2.2, fun k hk => CO.old k hk (fun Xm => ?_)⟩⟩; have hu0 : u = [] := by simpa using Mi Yz
           obtain ⟨_, _, yI⟩ := hm2 k Xm; rw [hu0] at yI
           cases yI
end Go.TM
namespace Go.TM
open Go Go.RowKit
def uP (st : St) (n : Nat × Nat) : Prop := ∃ g A, bd st n.1 n.2 g = some A ∧ A.md.Ct = false
theorem H0 {st : St} {own : Bool} {x : CV} {o : OV} {u : Option Lb} {r : List (Nat × Nat)} (h : gk st own x = some (o, u, r)) : (∀ s j, u = some (.sp s j) → uP st (s, j)) ∧ ∀ p ∈ r, uP st p := by
 cases x with
 | ref a j g w =>
   unfold gk at h; simp only at h
   cases hA : bd st a j g with
   | none => simp [hA] at h
   | some A =>
     simp only [hA] at h
     cases hm : A.md.Ct with
     | true => simp [hm] at h
     | false =>
     have zh := hm; simp only [hm, cond_false] at h
     cases hb : (own && A.own && (A.md.is .sh || w.isFull)) <;> simp only [hb, cond_true, cond_false, Option.some.injEq, Prod.mk.injEq] at h <;> obtain ⟨_, rfl, rfl⟩ := h
     · exact ⟨by simp, fun p hp => by simp at hp; subst hp; exact ⟨g, A, hA, zh⟩⟩
     · refine ⟨fun s k e => ?_, by simp⟩; simp only [Option.some.injEq, Lb.sp.injEq] at e; obtain ⟨rfl, rfl⟩ := e; exact ⟨g, A, hA, zh⟩
 | pL a j g e i k q ys =>
   unfold gk at h; simp only at h
   cases hA : bd st a j g with
   | none => simp [hA] at h
   | some A =>
     simp only [hA] at h; obtain ⟨h1, h⟩ := aI h; rw [Bool.and_eq_true] at h1; have hm := Md.oB.1 h1.1; simp only [Option.some.injEq, Prod.mk.injEq] at h; obtain ⟨_, rfl, rfl⟩ := h; exact ⟨by simp, fun p hp => by simp at hp; subst hp; exact ⟨g, A, hA, by rw [hm]; rfl⟩⟩
 | k9 q y off => obtain ⟨_, rfl, rfl⟩ := uK h; simp
 | rM q y off => obtain ⟨_, rfl, rfl⟩ := sD h; simp
 | _ => simp [gk] at h <;> (try (obtain ⟨_, rfl, rfl⟩ := h; simp))
theorem sG {st : St} {own : Bool} : (cs : List CV) → {os : List OV} → {u : List (Option Lb)} → {r : List (Nat × Nat)} → fc st own cs = some (os, u, r) → (∀ s j, .sp s j ∈ cn u → uP st (s, j)) ∧ ∀ p ∈ r, uP st p
 | [], _, _, _, h => by
   simp only [fc, Option.some.injEq, Prod.mk.injEq] at h; obtain ⟨_, rfl, rfl⟩ := h; simp [cn]
 | x :: cs, os, u, r, h => by
   unfold fc at h
   cases hc : gk st own x with
   | none => simp [hc] at h
   | some p =>
     obtain ⟨o, u1, r1⟩ := p
     cases hq : fc st own cs with
     | none => simp [hc, hq] at h
     | some q =>
       obtain ⟨w6, us, rs⟩ := q; simp only [hc, hq, Option.some.injEq, Prod.mk.injEq] at h; obtain ⟨_, rfl, rfl⟩ := h; obtain ⟨a1, a2⟩ := H0 hc; obtain ⟨b1, b2⟩ := sG cs hq; refine ⟨fun s j hm => ?_, fun p hp => ?_⟩
       · rw [gR] at hm; rcases List.mem_cons.1 hm with hm | hm
         · exact a1 s j hm.symm
         · exact b1 s j (gR.2 hm)
       · rcases List.mem_append.1 hp with hp | hp
         · exact a2 p hp
         · exact b2 p hp
theorem Ei {st : St} {m : Pm} {v : V} {av : AV} {u q : List Lb} {r : List (Nat × Nat)} (h : eo st m v = some (av, u, q, r)) : (∀ s j, .sp s j ∈ u → uP st (s, j)) ∧ ∀ p ∈ r, uP st p := by
 have single : ∀ own cs ag, (match fc st own cs with | some (os, u, r) => some (AV.val ag os, cn u, cn u, r) | none => none) = some (av, u, q, r) → (∀ s j, .sp s j ∈ u → uP st (s, j)) ∧ ∀ p ∈ r, uP st p := by
   intro own cs ag h
   cases hq : fc st own cs with
   | none => simp [hq] at h
   | some p =>
     obtain ⟨os, us, rs⟩ := p; simp only [hq, Option.some.injEq, Prod.mk.injEq] at h; obtain ⟨_, rfl, rfl, rfl⟩ := h; exact sG cs hq
 cases v with
 | nb _ => simp [eo] at h
 | agg cs =>
   unfold eo at h
   cases m with
   | shr => exact single _ _ _ h
   | own => exact single _ _ _ h
   | pick _ => exact single _ _ _ h
   | io => exact single _ _ _ h
   | bQ =>
     simp only at h
     cases hq : fc st true cs with
     | none => simp [hq] at h
     | some p =>
       obtain ⟨os, us, rs⟩ := p; simp only [hq] at h; obtain ⟨_, h1⟩ := aI h; simp only [Option.some.injEq, Prod.mk.injEq] at h1; obtain ⟨_, rfl, _, rfl⟩ := h1; exact sG cs hq
 | one cx =>
   cases cx with
   | ptr b g off =>
     unfold eo at h; simp only at h
     cases hb : dE st b g with
     | none => simp [hb] at h
     | some cs =>
       simp only [hb] at h
       cases hq : fc st true cs with
       | none => simp [hq] at h
       | some p =>
         obtain ⟨os, us, rs⟩ := p; simp only [hq] at h; obtain ⟨_, h1⟩ := aI h; simp only [Option.some.injEq, Prod.mk.injEq] at h1; obtain ⟨_, rfl, rfl, rfl⟩ := h1; obtain ⟨a1, a2⟩ := sG cs hq; refine ⟨fun s j hm => ?_, a2⟩; rcases List.mem_cons.1 hm with hm | hm
         · cases hm
         · exact a1 s j hm
   | ref s j g vw =>
     unfold eo at h
     cases m with
     | shr => exact single _ _ _ h
     | own => exact single _ _ _ h
     | pick _ => exact single _ _ _ h
     | bQ => exact single _ _ _ h
     | io =>
       cases vw with
       | full =>
         cases hA : bd st s j g with
         | none => simp [hA] at h
         | some A =>
           simp only [hA] at h; obtain ⟨hb, h1⟩ := aI h; simp only [Option.some.injEq, Prod.mk.injEq] at h1; obtain ⟨_, rfl, _, rfl⟩ := h1; refine ⟨fun s' j' hm => ?_, by simp⟩; simp at hm; obtain ⟨rfl, rfl⟩ := hm; rw [Bool.and_eq_true] at hb; exact ⟨g, A, hA, by cases hh : A.md.Ct <;> simp_all⟩
       | «from» _ => simp at h
       | sub _ _ => simp at h
   | _ =>
     unfold eo at h; simp only at h
     split at h
     · rename_i os us rs hq; simp only [Option.some.injEq, Prod.mk.injEq] at h; obtain ⟨_, rfl, _, rfl⟩ := h; exact sG _ hq
     · cases h
theorem yP {st : St} : (ms : List (Pm × V)) → {eA : List AV} → {u q : List Lb} → {r : List (Nat × Nat)} → iM st ms = some (eA, u, q, r) → (∀ s j, .sp s j ∈ u → uP st (s, j)) ∧ ∀ p ∈ r, uP st p
 | [], _, _, _, _, h => by
   simp only [iM, Option.some.injEq, Prod.mk.injEq] at h; obtain ⟨_, rfl, _, rfl⟩ := h; simp
 | (m, v) :: ms, eA, u, q, r, h => by
   unfold iM at h
   cases h1 : eo st m v with
   | none => simp [h1] at h
   | some p1 =>
     obtain ⟨av, u1, q1, r1⟩ := p1
     cases h2 : iM st ms with
     | none => simp [h1, h2] at h
     | some p2 =>
       obtain ⟨Mj, u2, q2, r2⟩ := p2; simp only [h1, h2, Option.some.injEq, Prod.mk.injEq] at h; obtain ⟨_, rfl, _, rfl⟩ := h; obtain ⟨a1, a2⟩ := Ei h1; obtain ⟨b1, b2⟩ := yP ms h2; refine ⟨fun s j hm => ?_, fun p hp => ?_⟩
       · rcases List.mem_append.1 hm with hm | hm
         · exact a1 s j hm
         · exact b1 s j hm
       · rcases List.mem_append.1 hp with hp | hp
         · exact a2 p hp
         · exact b2 p hp
theorem zC : {l : List Nat} → Cx l = true → ∀ {a b : Nat} {x y : Nat}, l[a]? = some x → l[b]? = some y → a < b → x < y
 | [], _, a, b, x, y, h, _, _ => by simp at h
 | [z], _, a, b, x, y, h1, h2, hab => by
   have : b = 0 := by
     have := (List.getElem?_eq_some_iff.1 h2).1; simpa using this
   omega
 | z :: z' :: l, h, a, b, x, y, h1, h2, hab => by
   simp only [Cx, Bool.and_eq_true] at h; have hz : z < z' := by have := h.1; simp [Nat.blt] at this; omega
   cases b with
   | zero => omega
   | succ b =>
     cases a with
     | succ a => exact zC h.2 (by simpa using h1) (by simpa using h2) (by omega)
     | zero =>
       simp at h1; subst h1
       cases b with
       | zero => simp at h2; omega
       | succ b =>
         have := zC (a := 0) (b := b + 1) h.2 rfl (by simpa using h2) (by omega); omega
theorem Kg {l : List Nat} (h : Cx l = true) {a b x : Nat} (h1 : l[a]? = some x) (h2 : l[b]? = some x) : a = b := by
 rcases Nat.lt_trichotomy a b with h3 | h3 | h3
 · have := zC h h1 h2 h3; omega
 · exact h3
 · have := zC h h2 h1 h3; omega
theorem Ar {k : Nat} : (n : Nat) → (l : List Dr) → (∃ y ∈ l, y.k = k) → ∃ i y, posOf k n l = n + i ∧ l[i]? = some y ∧ y.k = k
 | n, [], h => by obtain ⟨y, hy, _⟩ := h; cases hy
 | n, x :: l, h => by
   unfold posOf
   cases hb : Nat.beq x.k k with
   | true => exact ⟨0, x, rfl, rfl, Nat.eq_of_beq_eq_true hb⟩
   | false =>
     have ik : x.k ≠ k := by intro e; rw [e, Nat.beq_refl] at hb; cases hb
     obtain ⟨y, hy, e⟩ := h; rcases List.mem_cons.1 hy with rfl | hy
     · exact absurd e ik
     · obtain ⟨i, y', h1, h2, h3⟩ := Ar (n + 1) l ⟨y, hy, e⟩; exact ⟨i + 1, y', by rw [cond_false, h1]; omega, by simpa using h2, h3⟩
theorem Ej {l : List Dr} (hi : Cx (l.map (·.k)) = true) {i : Nat} {y : Dr} (h : l[i]? = some y) : posOf y.k 0 l = i := by
 obtain ⟨i', y', h1, h2, h3⟩ := Ar (k := y.k) 0 l ⟨y, List.mem_of_getElem? h, rfl⟩; rw [h1, Nat.zero_add]; exact Kg hi (x := y.k) (by rw [List.getElem?_map, h2]; simp [h3]) (by rw [List.getElem?_map, h]; rfl)
def Dr.cv (y : Dr) : CV := .pL y.a y.j y.g y.e y.i y.k y.q y.ys
theorem tl {y : Dr} : {cs : List CV} → y ∈ vX cs → y.cv ∈ cs
 | [], h => by simp [vX] at h
 | c :: cs, h => by
   cases c with
   | pL a j g e i k q ys =>
     rcases List.mem_cons.1 h with rfl | h
     · exact List.mem_cons_self
     · exact List.mem_cons_of_mem _ (tl h)
   | _ => exact List.mem_cons_of_mem _ (tl h)
theorem Au {a j g e i k : Nat} {q : RT} {ys : List (ar q)} : {cs : List CV} → CV.pL a j g e i k q ys ∈ cs → (⟨a, j, g, e, i, k, q, ys⟩ : Dr) ∈ vX cs
 | [], h => by cases h
 | c :: cs, h => by
   rcases List.mem_cons.1 h with rfl | h
   · exact List.mem_cons_self
   · have := Au (cs := cs) h
     cases c with
     | pL _ _ _ _ _ _ _ _ => exact List.mem_cons_of_mem _ this
     | _ => exact this
theorem Av {y : Dr} : {ms : List (Pm × V)} → y ∈ qH ms → ∃ m ∈ ms, (m = (.io, .one y.cv)) ∨ ∃ cs, m = (.bQ, .agg cs) ∧ y.cv ∈ cs
 | [], h => by simp [qH] at h
 | (p, v) :: ms, h => by
   have rest : y ∈ qH ms → ∃ m ∈ (p, v) :: ms, (m = (.io, .one y.cv)) ∨ ∃ cs, m = (.bQ, .agg cs) ∧ y.cv ∈ cs := fun h => by
     obtain ⟨m, hm, e⟩ := Av h; exact ⟨m, List.mem_cons_of_mem _ hm, e⟩
   cases p with
   | io => cases v with
     | one c =>
       rcases List.mem_append.1 h with h | h
       · have := tl h; simp at this; exact ⟨_, List.mem_cons_self, .inl (by rw [this])⟩
       · exact rest h
     | _ => exact rest h
   | bQ => cases v with
     | agg cs =>
       rcases List.mem_append.1 h with h | h
       · exact ⟨_, List.mem_cons_self, .inr ⟨cs, rfl, tl h⟩⟩
       · exact rest h
     | _ => exact rest h
   | _ => exact rest (by cases v <;> exact h)
theorem BT {a j g e i k : Nat} {q : RT} {ys : List (ar q)} : {ms : List (Pm × V)} → (.io, .one (.pL a j g e i k q ys)) ∈ ms → (⟨a, j, g, e, i, k, q, ys⟩ : Dr) ∈ qH ms
 | [], h => by cases h
 | (p, v) :: ms, h => by
   rcases List.mem_cons.1 h with h | h
   · cases h
     exact List.mem_append_left _ List.mem_cons_self
   · have := BT (ms := ms) h
     cases p <;> cases v <;> first | exact this | exact List.mem_append_right _ this
theorem yQ {a j g e i k : Nat} {q : RT} {ys : List (ar q)} {cs : List CV} (hc : CV.pL a j g e i k q ys ∈ cs) : {ms : List (Pm × V)} → (.bQ, .agg cs) ∈ ms → (⟨a, j, g, e, i, k, q, ys⟩ : Dr) ∈ qH ms
 | [], h => by cases h
 | (p, v) :: ms, h => by
   rcases List.mem_cons.1 h with h | h
   · cases h
     exact List.mem_append_left _ (Au hc)
   · have := yQ hc (ms := ms) h
     cases p <;> cases v <;> first | exact this | exact List.mem_append_right _ this
theorem xf {st : St} {ms : List (Pm × V)} {x : Dr} {A : ig} {l : List Dr} (h : mi st ms = some (x, A, l)) :
   l = qH ms ∧ bd st x.a x.j x.g = some A ∧ A.own = true ∧ A.md = .dp ∧ my st x.a = x.e ∧ (∀ y ∈ l, y.a = x.a ∧ y.j = x.j ∧ y.g = x.g ∧ y.e = x.e ∧ y.i = x.i) ∧ Cx (l.map (·.k)) = true ∧ x.a ≠ st.length - 1 := by
 unfold mi at h
 cases hd : qH ms with
 | nil => rw [hd] at h; cases h
 | cons y l' =>
   rw [hd] at h; simp only at h
   cases hA : bd st y.a y.j y.g with
   | none => rw [hA] at h; cases h
   | some B =>
     rw [hA] at h; simp only at h; obtain ⟨h1, h⟩ := aI h; simp only [Option.some.injEq, Prod.mk.injEq] at h; obtain ⟨rfl, rfl, rfl⟩ := h; simp only [Bool.and_eq_true] at h1; obtain ⟨⟨⟨⟨⟨h1, h2⟩, h3⟩, h4⟩, h5⟩, h6⟩ := h1; refine ⟨rfl, hA, h1, Md.oB.1 h2, (Nat.eq_of_beq_eq_true h3).symm, fun z hz => ?_, h5, fun e => ?_⟩
     · rcases List.mem_cons.1 hz with rfl | hz
       · exact ⟨rfl, rfl, rfl, rfl, rfl⟩
       · have := List.all_eq_true.1 h4 z hz; simp only [Bool.and_eq_true] at this; obtain ⟨⟨⟨⟨q1, q2⟩, q3⟩, q4⟩, q5⟩ := this; exact ⟨Nat.eq_of_beq_eq_true q1, Nat.eq_of_beq_eq_true q2, Nat.eq_of_beq_eq_true q3, Nat.eq_of_beq_eq_true q4, Nat.eq_of_beq_eq_true q5⟩
     · rw [← e, Nat.beq_refl] at h6
       cases h6
theorem Ek : (r : RT) → (x : ar r) → (k : Nat) → {p : (q : RT) × List (ar q)} → p8 r x k = some p → k < r.width
 | .nil, _, _, _, h => by simp [p8] at h
 | .cons t r, x, 0, _, _ => by simp [RT.width]
 | .cons t r, x, k + 1, p, h => by
   have h' : p8 r x.2 k = some p := by cases t <;> exact h
   have := Ek r x.2 k h'; simp [RT.width]; omega
noncomputable def Cz.split (c : Cz) (a j i P : Nat) (gg : Nat → List Nat) (l : List Dr) (Js : Nat → Loc) : Cz :=
 { bx := c.bx, lc := fun s k => if s = P then Js k else c.lc s k,
   own := fun k => have := Classical.propDecidable (c.own k = some (.sp a j) ∧ ∃ y q, y ∈ l ∧ gg k = i :: y.k :: q); if c.own k = some (.sp a j) ∧ ∃ y q, y ∈ l ∧ gg k = i :: y.k :: q then some (.sp P (posOf ((gg k).getD 1 0) 0 l)) else c.own k }
theorem Cz.oM {c : Cz} {a j i P : Nat} {gg : Nat → List Nat} {l : List Dr} {Js : Nat → Loc} {k : Nat} (h : ¬ (c.own k = some (.sp a j) ∧ ∃ y q, y ∈ l ∧ gg k = i :: y.k :: q)) : (c.split a j i P gg l Js).own k = c.own k := by
 unfold Cz.split; simp only; rw [if_neg h]
theorem Cz.El {c : Cz} {a j i P : Nat} {gg : Nat → List Nat} {l : List Dr} {Js : Nat → Loc} (hi : Cx (l.map (·.k)) = true) {k n : Nat} {y : Dr} {q : List Nat} (h : c.own k = some (.sp a j)) (hy : l[n]? = some y) (hg : gg k = i :: y.k :: q) : (c.split a j i P gg l Js).own k = some (.sp P n) := by
 unfold Cz.split; simp only; rw [if_pos ⟨h, y, q, List.mem_of_getElem? hy, hg⟩, hg]; have : (i :: y.k :: q).getD 1 0 = y.k := rfl; rw [this, Ej hi hy]
theorem Cz.uQ {c : Cz} {a j i P : Nat} {gg : Nat → List Nat} {l : List Dr} {Js : Nat → Loc} {k : Nat} : (c.split a j i P gg l Js).ok k ↔ c.ok k := by
 unfold Cz.ok
 by_cases h : c.own k = some (.sp a j) ∧ ∃ y q, y ∈ l ∧ gg k = i :: y.k :: q
 · have h0 := h.1; unfold Cz.split; simp only; rw [if_pos h, h0]; simp
 · rw [Cz.oM h]
theorem Cz.FN {c : Cz} {a j i P : Nat} {gg : Nat → List Nat} {l : List Dr} {Js : Nat → Loc} {k : Nat} {lb : Lb} (h : (c.split a j i P gg l Js).own k = some lb) : c.own k = some lb ∨ (c.own k = some (.sp a j) ∧ ∃ n, lb = .sp P n) := by
 by_cases h1 : c.own k = some (.sp a j) ∧ ∃ y q, y ∈ l ∧ gg k = i :: y.k :: q
 · unfold Cz.split at h; simp only at h; rw [if_pos h1] at h; exact .inr ⟨h1.1, _, (Option.some.inj h).symm⟩
 · rw [Cz.oM h1] at h; exact .inl h
theorem uR {st : St} {x : Dr} {A : ig} {l : List Dr} (ik : x.a ≠ st.length - 1) (s : Nat) : nth (eE st x A l) s = if s = st.length - 1 then (nth st s).map (fun z => { z with aP := l.map (fun y => some y.arr), ag := z.ag + 1, ep := z.ep + 1 }) else
   (if s = x.a then (nth st s).map (fun z => { z with aP := m6 (fun _ => some { A with md := .ho x.i }) z.aP x.j, ep := z.ep + 1 }) else nth st s) := by
 unfold eE bP; rw [dF, dF]
 by_cases e : s = st.length - 1
 · rw [if_pos e, if_pos e, if_neg (show ¬ (s = x.a) from fun e' => ik (e'.symm.trans e))]
 · rw [if_neg e, if_neg e]
end Go.TM
namespace Go.TM
open Go Go.RowKit
structure No (c c1 : Cz) (st : St) (w : World) (x : Dr) (A : ig) (l : List Dr) (gg : Nat → List Nat) (b o cap : Nat) : Prop where
 lc : c.lc x.a x.j = .at b o cap
 lc1 : c1.lc x.a x.j = .at b o cap
 own : c.own b = some (.sp x.a x.j)
 g0 : gg b = []
 rows : ∀ (i : Nat) z, A.xs[i]? = some z → gF w (fun p k => c.own k = some (.sp x.a x.j) ∧ gg k = p) A.r [i] 0 b (o + i * A.r.width) z
 stay : ∀ k, c.own k = some (.sp x.a x.j) → (∀ y ∈ l, ∀ q, gg k ≠ x.i :: y.k :: q) → c1.own k = some (.sp x.a x.j)
 out : ∀ n y, l[n]? = some y → ∃ v, w.cell? ⟨b, o + x.i * A.r.width + y.k, none⟩ = some v ∧ v.oneCell' = true ∧ jx (c1.lc (st.length - 1) n) y.q.width 0 y.ys.length v ∧ y.k < A.r.width
 len : x.i < A.xs.length
theorem uQ {w0 : World} {mu : Mu} {c : Cz} {st : St} {a : Act} {w : World} (h : Rel w0 mu c st a w) {ms : List (Pm × V)} {x : Dr} {A : ig} {l : List Dr} (hs : mi st ms = some (x, A, l)) (uO : ∀ m ∈ ms, ∃ v, eF c st w m.2 v) :
   ∃ (c1 : Cz) (gg : Nat → List Nat) (b o cap : Nat), Rel w0 mu c1 (eE st x A l) a w ∧ Fw c st w c1 (eE st x A l) w ∧ No c c1 st w x A l gg b o cap ∧
     ∀ m ∈ ms, ∀ v, eF c st w m.2 v → eF c1 (eE st x A l) w (L0 (st.length - 1) (oa st (st.length - 1) + 1) l m).2 v := by
 obtain ⟨hl, hA, gG, zh, hep, n6, H2, ik⟩ := xf hs; have qO : ∀ y ∈ l, ∃ v, jG c st w y.cv v := by
   intro y hy; rw [hl] at hy; obtain ⟨m, hm, e | ⟨cs, e, hc⟩⟩ := Av hy
   · obtain ⟨v, hv⟩ := uO m hm; rw [e] at hv; exact ⟨v, hv⟩
   · obtain ⟨v, hv⟩ := uO m hm; rw [e] at hv; obtain ⟨vs, rfl, hL⟩ := hv; obtain ⟨k, hk⟩ := List.mem_iff_getElem?.1 hc; have dC : k < vs.toList.length := by rw [← hL.1]; exact (List.getElem?_eq_some_iff.1 hk).1
     exact ⟨_, hL.2 k _ _ hk (List.getElem?_eq_getElem dC)⟩
 have S7 : ∀ y ∈ l, ∀ v, jG c st w y.cv v → ∃ (gg : Nat → List Nat) (b o cap : Nat), c.lc x.a x.j = .at b o cap ∧ A.md = .dp ∧ gg b = [] ∧ w.cell? ⟨b, o + x.i * A.r.width + y.k, none⟩ = some v ∧
     (∀ (i : Nat) z, A.xs[i]? = some z → gF w (fun p k => c.own k = some (.sp x.a x.j) ∧ gg k = p) A.r [i] 0 b (o + i * A.r.width) z) ∧ (∃ z, A.xs[x.i]? = some z ∧ p8 A.r z y.k = some ⟨y.q, y.ys⟩) := by
   intro y hy v hv; obtain ⟨e1, e2, e3, e4, e5⟩ := n6 y hy; obtain ⟨ya, yj, yg, ye, yi, yk, yq, yys⟩ := y; simp only at e1 e2 e3 e4 e5; subst e1 e2 e3 e4 e5; obtain ⟨gg, b, o, cap, h1, h2, h3, h4, h5, h6, _⟩ := D7 hv hA hep (h.sx hA); exact ⟨gg, b, o, cap, h1, h2, h3, h4, h5, h6⟩
 have ew := h.sx hA; obtain ⟨y0, S8⟩ : ∃ y, y ∈ l := by
   cases S6 : l with
   | cons y _ => exact ⟨y, List.mem_cons_self⟩
   | nil =>
     rw [S6] at hl; unfold mi at hs; rw [← hl] at hs
     cases hs
 obtain ⟨v0, hv0⟩ := qO y0 S8; obtain ⟨gg, b, o, cap, iA, _, GQ, _, vO, LR⟩ := S7 y0 S8 v0 hv0; have Kh : ∀ y ∈ l, ∀ v, jG c st w y.cv v → w.cell? ⟨b, o + x.i * A.r.width + y.k, none⟩ = some v ∧ (∃ z, A.xs[x.i]? = some z ∧ p8 A.r z y.k = some ⟨y.q, y.ys⟩) := by
   intro y hy v hv; obtain ⟨_, b', o', Fv, h1, _, _, h4, _, h6⟩ := S7 y hy v hv; rw [iA] at h1; injection h1 with e1 e2 e3; subst e1 e2 e3; exact ⟨h4, h6⟩
 have Ki : ∀ n : Nat, ∃ lc : Loc, ∀ y, l[n]? = some y → ∃ v, w.cell? ⟨b, o + x.i * A.r.width + y.k, none⟩ = some v ∧ v.oneCell' = true ∧ jx lc y.q.width 0 y.ys.length v ∧
     ((lc = .nil ∧ y.ys = []) ∨ ∃ b' off Fv, lc = .at b' off Fv ∧ (c.own b' = some (.sp x.a x.j) ∧ gg b' = [x.i, y.k]) ∧ y.ys.length ≤ Fv ∧ (∃ cur ty, w.heap[b']? = some (.cells cur ty (0, 0)) ∧ off + Fv * y.q.width ≤ cur.size) ∧
       ∀ (i : Nat) z, y.ys[i]? = some z → gF w (fun p k => c.own k = some (.sp x.a x.j) ∧ gg k = p) y.q ([x.i, y.k] ++ [i]) 0 b' (off + i * y.q.width) z) := by
   intro n
   cases hn : l[n]? with
   | none => exact ⟨.nil, fun y hy => by cases hy⟩
   | some y =>
     have hy := List.mem_of_getElem? hn; obtain ⟨v, hv⟩ := qO y hy; obtain ⟨h4, z, Mn, Mo⟩ := Kh y hy v hv; obtain ⟨v', q1, q2⟩ := xT A.r [x.i] 0 _ z y.k (vO x.i z Mn) Mo; rw [h4] at q1
     cases q1
     obtain ⟨lc, r1, r2, r3⟩ := (uz _ _ _ _ _ _).1 q2; refine ⟨lc, fun y' LP => ?_⟩
     cases LP
     exact ⟨v, h4, r2, r1, by simpa using r3⟩
 obtain ⟨Js, Oi⟩ := Classical.axiomOfChoice Ki; have hb : c.own b = some (.sp x.a x.j) := by
   unfold cu at ew; rw [iA] at ew; have := ew.1
   rwa [gG] at this
 let P := st.length - 1
 let c1 := c.split x.a x.j x.i P gg l Js
 have xg := uR (A := A) (l := l) ik; obtain ⟨sla, Np, ha2, S9⟩ := bA hA; have Oj : P < st.length := by
   have := CA Np; show st.length - 1 < st.length; omega
 obtain ⟨slP, hP⟩ : ∃ s, nth st P = some s := ⟨st[P], by rw [gC]; exact List.getElem?_eq_getElem Oj⟩; have YA : oa st P = slP.ag := by unfold oa; rw [hP]
 have BU : ∀ s k, s ≠ P → c1.lc s k = c.lc s k := fun s k e => by show (if s = P then _ else _) = _; rw [if_neg e]
 have Kj : ∀ k, c1.lc P k = Js k := fun k => by show (if P = P then _ else _) = _; rw [if_pos rfl]
 have xW : ∀ s, dv st s ≤ dv (eE st x A l) s ∧ gD st s = gD (eE st x A l) s ∧ my st s ≤ my (eE st x A l) s ∧ (s = P ∨ s = x.a → nth st s ≠ none → my (eE st x A l) s ≠ my st s) := by
   intro s; unfold dv gD my; rw [xg]
   by_cases e : s = st.length - 1
   · rw [if_pos e]
     cases nth st s with
     | none => simp
     | some z => refine ⟨by simp, rfl, by simp, fun _ _ => by simp⟩
   · rw [if_neg e]
     by_cases e2 : s = x.a
     · rw [if_pos e2]
       cases nth st s with
       | none => simp
       | some z => refine ⟨by simp, rfl, by simp, fun _ _ => by simp⟩
     · rw [if_neg e2]; exact ⟨Nat.le_refl _, rfl, Nat.le_refl _, fun h => absurd h (by rintro (h | h); exact e h; exact e2 h)⟩
 have Ta : dv (eE st x A l) P = slP.ag + 1 := by
   unfold dv; rw [xg, if_pos rfl, hP]; rfl
 have gQ : Fw c st w c1 (eE st x A l) w := {
   stays := ⟨Nat.le_refl _, fun _ _ _ => rfl, fun _ _ h => Cz.uQ.2 h⟩
   refs := fun a' j' g' A2 hg FH => by
     obtain ⟨sl, k1, k2, k3⟩ := bA FH; rw [xg] at k1
     by_cases e : a' = st.length - 1
     · rw [if_pos e] at k1; obtain ⟨z, hz, rfl⟩ := Option.map_eq_some_iff.1 k1; unfold dv at hg; rw [hz] at hg; simp only at k2 hg; omega
     · rw [if_neg e] at k1
       by_cases e2 : a' = x.a
       · rw [if_pos e2] at k1; obtain ⟨z, hz, rfl⟩ := Option.map_eq_some_iff.1 k1; have Tb := (xW a').2.2.2 (.inr e2) (by rw [hz]; simp); simp only at k2 k3; rw [dF] at k3
         by_cases e3 : j' = x.j
         · rw [if_pos e3] at k3; subst e2 e3; rw [Np] at hz
           cases hz
           rw [S9] at k3; simp only [Option.map_some, Option.some.injEq] at k3; subst k3; exact ⟨A, ph Np k2 S9, rfl, rfl, BU _ _ e, fun he => absurd he Tb⟩
         · rw [if_neg e3] at k3; exact ⟨A2, ph hz k2 k3, rfl, rfl, BU _ _ e, fun he => absurd he Tb⟩
       · rw [if_neg e2] at k1; exact ⟨A2, ph k1 k2 k3, rfl, rfl, BU _ _ e, fun _ => ⟨rfl, fun _ _ _ _ => rfl⟩⟩
   zg := fun b' g' nc _ oG => by
     refine ⟨⟨nc, ?_⟩, rfl⟩; unfold dE at oG ⊢; rw [xg] at oG
     by_cases e : b' = st.length - 1
     · rw [if_pos e] at oG
       cases hz : nth st b' with
       | none => rw [hz] at oG; cases oG
       | some z => rw [hz] at oG; exact oG
     · rw [if_neg e] at oG
       by_cases e2 : b' = x.a
       · rw [if_pos e2] at oG
         cases hz : nth st b' with
         | none => rw [hz] at oG; cases oG
         | some z => rw [hz] at oG; exact oG
       · rw [if_neg e2] at oG; exact oG
   gA := fun s => (xW s).1
   gB := fun s => Nat.le_of_eq (xW s).2.1
   gE := fun s => (xW s).2.2.1 }
 have Tc : ∀ t, cz (eE st x A l) t = cz st t := by
   intro t; unfold cz; rw [xg]
   by_cases e : t = st.length - 1
   · rw [if_pos e]; cases nth st t <;> rfl
   · rw [if_neg e]
     by_cases e2 : t = x.a
     · rw [if_pos e2]; cases nth st t <;> rfl
     · rw [if_neg e2]
 have other : ∀ s k B, cu c w s k B → ¬ (s = x.a ∧ k = x.j) → s ≠ P → cu c1 w s k B := by
   intro s k B hB hn hsP; refine hB.go gQ.stays (BU s k hsP) (fun kb hk => ⟨rfl, Cz.oM ?_⟩)
   rintro ⟨h1, _⟩
   rw [hk] at h1; injection h1 with h1; injection h1 with e1 e2; exact hn ⟨e1, e2⟩
 have YB : Rel w0 mu c1 (eE st x A l) a w := {
   fp := fun t => by rw [Tc]; exact gQ.m8 (h.fp t)
   boxes := fun s sl cs hs oG => by
     have : ∃ Nk, nth st s = some Nk ∧ Nk.box = some cs := by
       rw [xg] at hs
       by_cases e : s = st.length - 1
       · rw [if_pos e] at hs; obtain ⟨z, hz, rfl⟩ := Option.map_eq_some_iff.1 hs; exact ⟨z, hz, oG⟩
       · rw [if_neg e] at hs
         by_cases e2 : s = x.a
         · rw [if_pos e2] at hs; obtain ⟨z, hz, rfl⟩ := Option.map_eq_some_iff.1 hs; exact ⟨z, hz, oG⟩
         · rw [if_neg e2] at hs; exact ⟨sl, hs, oG⟩
     obtain ⟨Nk, jy, NS⟩ := this; have zj := h.boxes s Nk cs jy NS; refine zj.go gQ rfl (Cz.oM ?_) rfl
     rintro ⟨h1, _⟩
     rw [zj.1] at h1
     cases h1
   aP := fun s k sl B hs hB => by
     rw [xg] at hs
     by_cases e : s = st.length - 1
     · rw [if_pos e] at hs; obtain ⟨z, hz, rfl⟩ := Option.map_eq_some_iff.1 hs; simp only at hB; rw [gC, List.getElem?_map] at hB
       cases hy : l[k]? with
       | none => rw [hy] at hB; cases hB
       | some y =>
         rw [hy] at hB; simp only [Option.map_some, Option.some.injEq] at hB; subst hB; obtain ⟨v, r1, r2, r3, r4⟩ := Oi k y hy; have es : s = P := e; rw [es]; unfold cu; rw [Kj]; rcases r4 with ⟨e4, e5⟩ | ⟨b', off, Fv, e4, ⟨q1, q2⟩, q3, q4, q5⟩
         · rw [e4]; exact e5
         · rw [e4]; refine ⟨Cz.El H2 q1 hy (q := []) q2, q3, q4, ?_⟩; unfold cg; show match (bif y.q.ek then Md.dp else Md.sh) with | .sh => _ | .dp => _ | .ho _ => _
           cases Td : y.q.ek with
           | false => exact fun i z hz => gF.DP _ _ _ _ _ z Td (q5 i z hz)
           | true =>
             refine ⟨fun k => (gg k).drop 2, by show List.drop 2 (gg b') = []; rw [q2]; rfl, fun i z hz => gF.go _ _ [i] (fun q kb hk => ⟨rfl, Cz.El H2 hk.1 hy (q := [i] ++ q) (by rw [hk.2]; simp), by show List.drop 2 (gg kb) = _; rw [hk.2]; simp⟩) _ _ _ z rfl (q5 i z hz)⟩
     · rw [if_neg e] at hs
       by_cases e2 : s = x.a
       · rw [if_pos e2] at hs; obtain ⟨z, hz, rfl⟩ := Option.map_eq_some_iff.1 hs; simp only at hB; rw [dF] at hB
         by_cases e3 : k = x.j
         · rw [if_pos e3] at hB; subst e2 e3; rw [Np] at hz
           cases hz
           rw [S9] at hB; simp only [Option.map_some, Option.some.injEq] at hB; subst hB; unfold cu at ew ⊢; rw [BU _ _ e, iA]; rw [iA] at ew; obtain ⟨h0, h2, h3, _⟩ := ew; refine ⟨?_, h2, h3, fun _ => ⟨gg, GQ, fun i' z hq hz => gF.go _ [i'] [i'] (fun q kb hk => ⟨rfl, (Cz.oM (by
             rintro ⟨_, y, q', _, hg⟩
             rw [hk.2] at hg; injection hg with e' _; exact hq e')).trans hk.1, hk.2⟩) _ _ _ z rfl (vO i' z hz)⟩⟩
           show match A.own with | true => _ | false => _
           rw [gG]; show c1.own b = _; rw [Cz.oM]
           · exact hb
           · rintro ⟨_, y, q, _, hq⟩
             rw [GQ] at hq
             cases hq
         · rw [if_neg e3] at hB; exact other s k B (h.aP s k z B hz hB) (fun hh => e3 hh.2) e
       · rw [if_neg e2] at hs; exact other s k B (h.aP s k sl B hs hB) (fun hh => e2 hh.1) e
   owned := fun kb lb hk => by
     rcases Cz.FN hk with h1 | ⟨h1, n, rfl⟩
     · exact h.owned kb lb h1
     · obtain ⟨g1, g2⟩ := h.owned kb _ h1; exact ⟨g1, .inr (g2.resolve_left (by simp))⟩
   free := fun kb dC hk => h.free kb dC (Cz.uQ.1 hk)
   kept := h.kept
   old := h.old
   plain := h.plain
   ed := fun p hp => gQ.ed (h.ed p hp) }
 refine ⟨c1, gg, b, o, cap, YB, gQ, ⟨iA, by rw [BU _ _ ik]; exact iA, hb, GQ, vO, fun k hk hq => ?_, fun n y hn => ?_, ?_⟩, ?_⟩
 · show c1.own k = _; rw [Cz.oM]
   · exact hk
   · rintro ⟨_, y, q, hy, hq'⟩
     exact hq y hy q hq'
 · obtain ⟨v, r1, r2, r3, _⟩ := Oi n y hn; refine ⟨v, r1, r2, by rw [Kj]; exact r3, ?_⟩; obtain ⟨v', qc⟩ := qO y (List.mem_of_getElem? hn); obtain ⟨_, z, _, Mo⟩ := Kh y (List.mem_of_getElem? hn) v' qc; exact Ek _ _ _ Mo
 · obtain ⟨z, Mn, _⟩ := LR; exact (List.getElem?_eq_some_iff.1 Mn).1
 · -- Fk values Jx Rw j9
   have cell : ∀ cv v, jG c st w cv v → (∀ a j g e i k q ys, cv = .pL a j g e i k q ys → (⟨a, j, g, e, i, k, q, ys⟩ : Dr) ∈ l) → jG c1 (eE st x A l) w (NQ (st.length - 1) (oa st (st.length - 1) + 1) l cv) v := by
     intro cv v hv hm
     cases cv with
     | pL a j g e i k q ys =>
       have hy := hm _ _ _ _ _ _ _ _ rfl; obtain ⟨n, hn⟩ := List.mem_iff_getElem?.1 hy; have Ol : posOf k 0 l = n := Ej H2 hn; show jG c1 (eE st x A l) w (.ref P (posOf k 0 l) (oa st P + 1) .full) v; rw [Ol]; obtain ⟨v', r1, r2, r3, _⟩ := Oi n _ hn; have hvv := (Kh _ hy v hv).1; rw [r1] at hvv
       cases hvv
       refine ⟨r2, by rw [Ta, YA]; exact Nat.le_refl _, fun B hB => ?_⟩; obtain ⟨sl, k1, k2, k3⟩ := bA hB; rw [xg, if_pos rfl] at k1; obtain ⟨z, hz, rfl⟩ := Option.map_eq_some_iff.1 k1; simp only at k3; rw [gC, List.getElem?_map, hn] at k3; simp only [Option.map_some, Option.some.injEq] at k3; subst k3; rw [Kj]; exact r3
     | _ => exact gQ.JJ hv
   intro m hm v hv; obtain ⟨pm, mv⟩ := m
   cases pm with
   | io => cases mv with
     | one cv =>
       exact cell cv v hv (fun a j g e i k q ys e1 => by rw [hl]; subst e1; exact BT hm)
     | _ => exact gQ.m8 hv
   | bQ => cases mv with
     | agg cs =>
       obtain ⟨vs, rfl, hL⟩ := hv; refine ⟨vs, rfl, by rw [List.length_map]; exact hL.1, fun i y u hy hu => ?_⟩; rw [List.getElem?_map] at hy; obtain ⟨y0, S8, rfl⟩ := Option.map_eq_some_iff.1 hy; exact cell y0 u (hL.2 i y0 u S8 hu) (fun a j g e i k q ys e1 => by rw [hl]; subst e1; exact yQ (List.mem_of_getElem? S8) hm)
     | _ => exact gQ.m8 hv
   | _ => cases mv <;> exact gQ.m8 hv
end Go.TM
namespace Go.TM
open Go Go.RowKit
theorem Rel.clear {w0 : World} {mu : Mu} {c : Cz} {st : St} {a : Act} {w : World} (h : Rel w0 mu c st a w) (P : Nat) : Rel w0 mu c (m6 (fun s => { s with aP := [], ep := s.ep + 1 }) st P) a w ∧ Fw c st w c (m6 (fun s => { s with aP := [], ep := s.ep + 1 }) st P) w := by
 have hn : ∀ s, nth (m6 (fun s => { s with aP := [], ep := s.ep + 1 }) st P) s = if s = P then (nth st s).map (fun z => { z with aP := [], ep := z.ep + 1 }) else nth st s := fun s => dF _ _ _ _
 generalize m6 (fun s => { s with aP := [], ep := s.ep + 1 }) st P = bf at hn ⊢; have gQ : Fw c st w c bf w := {
   stays := iU.refl w _
   refs := fun a' j' g' A' _ ew => by
     obtain ⟨sl, k1, k2, k3⟩ := bA ew; rw [hn] at k1
     by_cases e : a' = P
     · rw [if_pos e] at k1; obtain ⟨z, hz, rfl⟩ := Option.map_eq_some_iff.1 k1; simp [nth] at k3
     · rw [if_neg e] at k1; exact ⟨A', ph k1 k2 k3, rfl, rfl, rfl, fun _ => ⟨rfl, fun _ _ _ _ => rfl⟩⟩
   zg := fun b' g' nc _ oG => by
     refine ⟨⟨nc, ?_⟩, rfl⟩; unfold dE at oG ⊢; rw [hn] at oG
     by_cases e : b' = P
     · rw [if_pos e] at oG
       cases hz : nth st b' with
       | none => rw [hz] at oG; cases oG
       | some z => rw [hz] at oG; exact oG
     · rw [if_neg e] at oG; exact oG
   gA := fun s => by
     unfold dv; rw [hn]
     by_cases e : s = P
     · rw [if_pos e]; cases nth st s <;> simp
     · rw [if_neg e]; exact Nat.le_refl _
   gB := fun s => by
     unfold gD; rw [hn]
     by_cases e : s = P
     · rw [if_pos e]; cases nth st s <;> simp
     · rw [if_neg e]; exact Nat.le_refl _
   gE := fun s => by
     unfold my; rw [hn]
     by_cases e : s = P
     · rw [if_pos e]; cases nth st s <;> simp
     · rw [if_neg e]; exact Nat.le_refl _ }
 refine ⟨{
   fp := fun t => by
     have : cz bf t = cz st t := by
       unfold cz; rw [hn]
       by_cases e : t = P
       · rw [if_pos e]; cases nth st t <;> rfl
       · rw [if_neg e]
     rw [this]; exact gQ.m8 (h.fp t)
   boxes := fun s sl cs hs hb => by
     rw [hn] at hs
     by_cases e : s = P
     · rw [if_pos e] at hs; obtain ⟨z, hz, rfl⟩ := Option.map_eq_some_iff.1 hs; exact (h.boxes s z cs hz hb).go gQ rfl rfl rfl
     · rw [if_neg e] at hs; exact (h.boxes s sl cs hs hb).go gQ rfl rfl rfl
   aP := fun s j sl A hs hA => by
     rw [hn] at hs
     by_cases e : s = P
     · rw [if_pos e] at hs; obtain ⟨z, hz, rfl⟩ := Option.map_eq_some_iff.1 hs; simp [nth] at hA
     · rw [if_neg e] at hs; exact h.aP s j sl A hs hA
   owned := h.owned
   free := h.free
   kept := h.kept
   old := h.old
   plain := h.plain
   ed := fun p hp => gQ.ed (h.ed p hp) }, gQ⟩
theorem Rel.swap {w0 : World} {mu : Mu} {c : Cz} {st : St} {a : Act} {w : World} (h : Rel w0 mu c st a w) {s j g : Nat} {H B : ig} (hH : bd st s j g = some H) (hw : B.r.width = H.r.width) (hn : B.xs.length = H.xs.length) (hB : cu c w s j B) :
   Rel w0 mu (c.et id c.bx c.lc) (bP st s j (some B)) a w := by
 have gQ : Fw c st w (c.et id c.bx c.lc) (bP st s j (some B)) w := xV (.inl hH) (fun _ e => by cases e; exact ⟨hw, hn⟩) id; have hX : ky (fun _ => False) w0 mu c st a w := ⟨h.fp, fun s sl cs _ => h.boxes s sl cs, fun s j sl A _ => h.aP s j sl A, h.owned, h.free, h.kept, h.old, h.plain, h.ed⟩; refine (hX.et qM gQ (fun t => by rw [uM]; exact gQ.m8 (h.fp t)) (fun k sl cs _ hs hb => ?_) (fun k i sl A _ hs hA => ?_)).rel
 · obtain ⟨f, hf, hk⟩ := hU st s j (some B) k; rw [hk] at hs
   cases hx : nth st k with
   | none => rw [hx] at hs; simp at hs
   | some x =>
     rw [hx] at hs; simp at hs; subst hs; rw [(hf x).2.1] at hb; exact (h.boxes k x cs hx hb).et qM gQ rfl
 · obtain ⟨f, hf, hk⟩ := hU st s j (some B) k; rw [hk] at hs
   cases hx : nth st k with
   | none => rw [hx] at hs; simp at hs
   | some x =>
     rw [hx] at hs; simp at hs; subst hs; rw [(hf x).2.2.2.2.1 i] at hA
     by_cases e : k = s ∧ i = j
     · rw [if_pos e] at hA; obtain ⟨rfl, rfl⟩ := e
       cases hq : nth x.aP i with
       | none => simp [hq] at hA
       | some A1 =>
         simp only [hq, Option.map_some, Option.some.injEq] at hA; subst hA; exact hB.et qM rfl
     · rw [if_neg e] at hA; exact (h.aP k i x A hx hA).et qM rfl
def iO (w : World) (P : List Nat → Nat → Prop) (K : Nat → Prop) : (r : RT) → (p : List Nat) → (k : Nat) → List Value → ar r → Prop
 | .nil, _, _, vs, _ => vs = []
 | .cons t r, p, k, vs, x => ∃ v l, vs = v :: l ∧ (¬ K k → dB w P t (p ++ [k]) v x.1) ∧ iO w P K r p (k + 1) l x.2
theorem iO.of {w w' : World} {P P' : List Nat → Nat → Prop} {K : Nat → Prop} : (r : RT) → (p : List Nat) → (hP : ∀ k q b, ¬ K k → P (p ++ [k] ++ q) b → w'.heap[b]? = w.heap[b]? ∧ P' (p ++ [k] ++ q) b) → (k : Nat) → (vs : List Value) → (x : ar r) → dD w P r p k vs x → iO w' P' K r p k vs x
 | .nil, _, _, _, _, _, h => h
 | .cons t r, p, hP, k, vs, x, h => by
   obtain ⟨v, l, e, h1, h2⟩ := h; exact ⟨v, l, e, fun hk => dB.go t (p ++ [k]) (p ++ [k]) (fun q b hb => hP k q b hk hb) v x.1 h1, iO.of r p hP (k + 1) l x.2 h2⟩
theorem iO.full {w : World} {P : List Nat → Nat → Prop} {K : Nat → Prop} (hK : ∀ k, ¬ K k) : (r : RT) → (p : List Nat) → (k : Nat) → (vs : List Value) → (x : ar r) → iO w P K r p k vs x → dD w P r p k vs x
 | .nil, _, _, _, _, h => h
 | .cons t r, p, k, vs, x, h => by
   obtain ⟨v, l, e, h1, h2⟩ := h; exact ⟨v, l, e, h1 (hK k), iO.full hK r p (k + 1) l x.2 h2⟩
theorem iO.mono {w : World} {P : List Nat → Nat → Prop} {K K' : Nat → Prop} : (r : RT) → (p : List Nat) → (k : Nat) → (hK : ∀ c, k ≤ c → K c → K' c) → (vs : List Value) → (x : ar r) → iO w P K r p k vs x → iO w P K' r p k vs x
 | .nil, _, _, _, _, _, h => h
 | .cons t r, p, k, hK, vs, x, h => by
   obtain ⟨v, l, e, h1, h2⟩ := h; exact ⟨v, l, e, fun hk => h1 fun h => hk (hK k (Nat.le_refl _) h), iO.mono r p (k + 1) (fun c hc => hK c (by omega)) l x.2 h2⟩
theorem iO.set {w : World} {P : List Nat → Nat → Prop} {q : RT} {ys : List (ar q)} {v : Value} : {K : Nat → Prop} → (r : RT) → (p : List Nat) → (k0 : Nat) → (vs : List Value) → (x : ar r) → (col : Nat) → {z : ar r} → iO w P K r p k0 vs x → nd r x col q ys = some z → vs[col]? = some v → dB w P (.sl q) (p ++ [k0 + col]) v ys →
   iO w P (fun c => K c ∧ c ≠ k0 + col) r p k0 vs z
 | _, .nil, _, _, _, _, _, _, _, h, _, _ => by simp [nd] at h
 | K, .cons t r, p, k0, vs, x, 0, z, hx, h, hv, hd => by
   obtain ⟨v', l, rfl, h1, h2⟩ := hx
   cases t with
   | sl q' =>
     have h : (cm q' ys).map (fun zs => ((zs, x.2) : ar (.cons (.sl q') r))) = some z := h; obtain ⟨zs, Te, hz⟩ := Option.map_eq_some_iff.1 h; obtain ⟨e, rfl⟩ := bD Te; subst e; subst hz; simp only [List.getElem?_cons_zero, Option.some.injEq] at hv; subst hv; exact ⟨v', l, rfl, fun _ => hd, iO.mono r p (k0 + 1) (fun c hc hK => ⟨hK, by omega⟩) l x.2 h2⟩
   | int _ => simp [nd] at h
   | bool => simp [nd] at h
   | str => simp [nd] at h
 | K, .cons t r, p, k0, vs, x, col + 1, z, hx, h, hv, hd => by
   obtain ⟨v', l, rfl, h1, h2⟩ := hx; have h' : (nd r x.2 col q ys).map (fun z => ((x.1, z) : ar (.cons t r))) = some z := by cases t <;> exact h
   obtain ⟨z', hz', hz⟩ := Option.map_eq_some_iff.1 h'; subst hz; have := iO.set r p (k0 + 1) l x.2 col h2 hz' (by simpa using hv) (by rw [show k0 + 1 + col = k0 + (col + 1) by omega]; exact hd); refine ⟨v', l, rfl, fun hk => h1 fun h => hk ⟨h, by omega⟩, ?_⟩
   rwa [show k0 + 1 + col = k0 + (col + 1) by omega] at this
theorem FO {w : World} {P : List Nat → Nat → Prop} {p : List Nat} {v : Value} {r s : RT} {xs : List (ar r)} {ys : List (ar s)} (h : cm s xs = some ys) (hd : dB w P (.sl r) p v xs) : dB w P (.sl s) p v ys := by
 obtain ⟨e, rfl⟩ := bD h; subst e; exact hd
theorem Aw {st : St} {P g : Nat} {r : RT} {w : World} {PP : List Nat → Nat → Prop} {p : List Nat} {vs : List Value} : (n : Nat) → (l : List Dr) → (z : ar r) → {z' : ar r} → s6 st P g r n l z = some z' →
   (∀ m y, l[m]? = some y → ∀ B, bd st P (n + m) g = some B → B.own = true → B.md = y.q.md → B.r = y.q → ∃ v, vs[y.k]? = some v ∧ dB w PP (.sl B.r) (p ++ [y.k]) v B.xs) →
   iO w PP (fun c => ∃ y ∈ l, y.k = c) r p 0 vs z → dD w PP r p 0 vs z'
 | n, [], z, z', h, _, hx => by
   simp only [s6, Option.some.injEq] at h; subst h; exact iO.full (by simp) _ _ _ _ _ hx
 | n, y :: l, z, z', h, hy, hx => by
   unfold s6 at h
   cases hB : bd st P n g with
   | none => rw [hB] at h; cases h
   | some B =>
     rw [hB] at h; obtain ⟨h1, h2⟩ := aI h; clear h; rw [Bool.and_eq_true] at h1
     cases hc : cm y.q B.xs with
     | none => rw [hc] at h2; cases h2
     | some ys =>
       rw [hc] at h2; simp only at h2
       cases hr : nd r z y.k y.q ys with
       | none => rw [hr] at h2; cases h2
       | some z1 =>
         rw [hr] at h2; simp only at h2; obtain ⟨e, he⟩ := bD hc; obtain ⟨v, hv, hd⟩ := hy 0 y rfl B hB h1.1 (Md.oB.1 h1.2) e; have FP : dB w PP (.sl y.q) (p ++ [0 + y.k]) v ys := by
           rw [Nat.zero_add]; exact FO hc hd
         refine Aw (n + 1) l z1 h2 (fun m y' hm B' Bk => hy (m + 1) y' (by simpa using hm) B' (by rw [show n + (m + 1) = n + 1 + m by omega]; exact Bk)) ?_; have := iO.set _ _ _ _ _ _ hx hr hv FP; refine iO.mono _ _ _ (fun c _ hc => ?_) _ _ this; obtain ⟨⟨y', LP, e'⟩, ik⟩ := hc; rcases List.mem_cons.1 LP with rfl | LP
         · exact absurd e'.symm (by omega)
         · exact ⟨y', LP, e'⟩
theorem Kk {w0 : World} {mu : Mu} {c c1 c5 : Cz} {st hM bf : St} {a2 : Act} {w w' : World} {x : Dr} {A : ig} {l : List Dr} {gg : Nat → List Nat} {b o cap : Nat} (ik : x.a ≠ st.length - 1) (FA : bd st x.a x.j x.g = some A) (gG : A.own = true) (zh : A.md = .dp)
   (hA : cu c w x.a x.j A) (H2 : Cx (l.map (·.k)) = true) (Bh : No c c1 st w x A l gg b o cap) (h5 : Rel w0 mu c5 hM a2 w') (gQ : Fw c1 (eE st x A l) w c5 hM w')
   (Jo : ∀ k, c1.own k = some (.sp x.a x.j) → w'.heap[k]? = w.heap[k]? ∧ c5.own k = some (.sp x.a x.j))
   (hv : (Fs (st.length - 1) (oa st (st.length - 1) + 1) x A l hM).val = some bf) : ∃ c6, Rel w0 mu c6 bf a2 w' := by
 unfold Fs at hv
 cases hH : bd hM x.a x.j x.g with
 | none => rw [hH] at hv; cases hv
 | some H =>
   rw [hH] at hv; simp only at hv; obtain ⟨_, hv⟩ := dJ hv
   cases hz : A.xs[x.i]? with
   | none => rw [hz] at hv; cases hv
   | some z =>
     rw [hz] at hv; have hv : (match s6 hM (st.length - 1) (oa st (st.length - 1) + 1) A.r 0 l z with
       | some z' => N.done (bP (m6 (fun s => { s with aP := [], ep := s.ep + 1 }) hM (st.length - 1)) x.a x.j (some (A.put (A.xs.set x.i z'))))
       | none => .fail).val = some bf := hv
     cases hj : s6 hM (st.length - 1) (oa st (st.length - 1) + 1) A.r 0 l z with
     | none => rw [hj] at hv; cases hv
     | some z' =>
       rw [hj] at hv; simp only [N.val, Option.some.injEq] at hv; subst hv; obtain ⟨P, hP⟩ : ∃ P, P = st.length - 1 := ⟨_, rfl⟩; rw [← hP] at ik hj ⊢; have JW := ik; rw [hP] at JW; have xg := uR (A := A) (l := l) JW; rw [← hP] at xg; obtain ⟨sla, Np, ha2, S9⟩ := bA FA; have XW : x.g ≤ dv (eE st x A l) x.a := by
         unfold dv; rw [xg, if_neg ik, if_pos rfl, Np]; show x.g ≤ sla.ag; omega
       have YC : ∀ B0, bd (eE st x A l) x.a x.j x.g = some B0 → B0.r.width = A.r.width ∧ B0.xs.length = A.xs.length := by
         intro B0 hB0; obtain ⟨sl, k1, k2, k3⟩ := bA hB0; rw [xg, if_neg ik, if_pos rfl, Np] at k1; simp only [Option.map_some, Option.some.injEq] at k1; subst k1; simp only at k3; rw [dF, if_pos rfl, S9] at k3; simp only [Option.map_some, Option.some.injEq] at k3; subst k3; exact ⟨rfl, rfl⟩
       obtain ⟨B0, q1, q2, q3, q4, _⟩ := gQ.refs x.a x.j x.g H XW hH; obtain ⟨e1, e2⟩ := YC B0 q1; have YD : c5.lc x.a x.j = .at b o cap := q4.trans Bh.lc1; have hPs : ∀ n B, bd hM P n (oa st P + 1) = some B → ∃ y, l[n]? = some y ∧ B.xs.length = y.ys.length ∧ B.r.width = y.q.width ∧ c5.lc P n = c1.lc P n := by
         intro n B hB; have YA : oa st P + 1 ≤ dv (eE st x A l) P := by
           unfold dv; rw [xg, if_pos rfl]; have Oj : P < st.length := by have := CA Np; omega
           have : nth st P = some st[P] := by rw [gC]; exact List.getElem?_eq_getElem Oj
           rw [this]; unfold oa; rw [this]; exact Nat.le_refl _
         obtain ⟨B1, r1, r2, r3, r4, _⟩ := gQ.refs P n _ B YA hB; obtain ⟨sl, k1, k2, k3⟩ := bA r1; rw [xg, if_pos rfl] at k1; obtain ⟨zz, Om, rfl⟩ := Option.map_eq_some_iff.1 k1; simp only at k3; rw [gC, List.getElem?_map] at k3
         cases hy : l[n]? with
         | none => rw [hy] at k3; cases k3
         | some y =>
           rw [hy] at k3; simp only [Option.map_some, Option.some.injEq] at k3; subst k3; exact ⟨y, rfl, r3, r2, r4⟩
       have hG : ∃ G : Nat → Nat → List Nat, ∀ n B y, bd hM P n (oa st P + 1) = some B → B.own = true → B.md = B.r.md → l[n]? = some y → ∀ v, v.oneCell' = true → jx (c5.lc P n) B.r.width 0 B.xs.length v →
           ∀ (PP : List Nat → Nat → Prop) (p : List Nat), (∀ k, c5.own k = some (.sp P n) → PP (p ++ G n k) k) → dB w' PP (.sl B.r) p v B.xs := by
         have : ∀ n, ∃ G : Nat → List Nat, ∀ B y, bd hM P n (oa st P + 1) = some B → B.own = true → B.md = B.r.md → l[n]? = some y → ∀ v, v.oneCell' = true → jx (c5.lc P n) B.r.width 0 B.xs.length v →
           ∀ (PP : List Nat → Nat → Prop) (p : List Nat), (∀ k, c5.own k = some (.sp P n) → PP (p ++ G k) k) → dB w' PP (.sl B.r) p v B.xs := by
           intro n
           by_cases e : ∃ B, bd hM P n (oa st P + 1) = some B ∧ B.own = true ∧ B.md = B.r.md
           · obtain ⟨B, hB, ho, hm⟩ := e
             by_cases e2 : ∃ v : Value, v.oneCell' = true ∧ jx (c5.lc P n) B.r.width 0 B.xs.length v
             · obtain ⟨v, wH, HZ⟩ := e2; obtain ⟨g, hg⟩ := JP (h5.sx hB) ho hm; refine ⟨g, fun B' y Bk _ _ _ v' h1 h2 PP p hP' => ?_⟩; rw [hB] at Bk
               cases Bk
               exact hg v' h1 h2 PP p hP'
             · refine ⟨fun _ => [], fun B' y Bk _ _ _ v' h1 h2 => ?_⟩; rw [hB] at Bk
               cases Bk
               exact absurd ⟨v', h1, h2⟩ e2
           · exact ⟨fun _ => [], fun B' y Bk h1 h2 => absurd ⟨B', Bk, h1, h2⟩ e⟩
         obtain ⟨G, hG⟩ := Classical.axiomOfChoice this; exact ⟨G, fun n => hG n⟩
       obtain ⟨G, hG⟩ := hG; have Mp : ∃ g6 : Nat → List Nat, (∀ k, c5.own k = some (.sp x.a x.j) → g6 k = gg k) ∧ ∀ n y k, l[n]? = some y → c5.own k = some (.sp P n) → g6 k = [x.i] ++ [y.k] ++ G n k := by
         have key : ∀ k, ∃ q : List Nat, (c5.own k = some (.sp x.a x.j) → q = gg k) ∧ ∀ n y, l[n]? = some y → c5.own k = some (.sp P n) → q = [x.i] ++ [y.k] ++ G n k := by
           intro k
           by_cases e : ∃ n y, l[n]? = some y ∧ c5.own k = some (.sp P n)
           · obtain ⟨n, y, f1, f2⟩ := e; refine ⟨[x.i] ++ [y.k] ++ G n k, fun h => ?_, fun n' y' h1 h2 => ?_⟩
             · rw [f2] at h; injection h with h; injection h with h _; exact absurd h.symm ik
             · rw [f2] at h2; injection h2 with h2; injection h2 with _ h2; subst h2; rw [f1] at h1
               cases h1
               rfl
           · exact ⟨gg k, fun _ => rfl, fun n y h1 h2 => absurd ⟨n, y, h1, h2⟩ e⟩
         obtain ⟨g6, h⟩ := Classical.axiomOfChoice key; exact ⟨g6, fun k => (h k).1, fun n y k => (h k).2 n y⟩
       obtain ⟨g6, On, YE⟩ := Mp; obtain ⟨sB, afj⟩ := h5.clear P; have JU : ∀ n ∈ (List.range l.length).map (fun n => (P, n)), ∀ sl B, nth (m6 (fun s => { s with aP := [], ep := s.ep + 1 }) hM P) n.1 = some sl → nth sl.aP n.2 ≠ some (some B) := by
         intro n hn sl B hs; obtain ⟨m, _, rfl⟩ := List.mem_map.1 hn; rw [dF, if_pos rfl] at hs; obtain ⟨zz, _, rfl⟩ := Option.map_eq_some_iff.1 hs; simp [nth]
       have hrl := sB.iW JU x.a x.j; have zZ : ∀ n y, l[n]? = some y → (P, n) ∈ (List.range l.length).map (fun n => (P, n)) := fun n y hn => List.mem_map.2 ⟨n, List.mem_range.2 (List.getElem?_eq_some_iff.1 hn).1, rfl⟩
       have Kl : ∀ k, c5.own k = some (.sp x.a x.j) → (c5.iW ((List.range l.length).map (fun n => (P, n))) (.sp x.a x.j)).own k = some (.sp x.a x.j) := by
         intro k hk; rw [Cz.oH]
         · exact hk
         · intro n hn e; obtain ⟨m, _, rfl⟩ := List.mem_map.1 hn; rw [hk] at e; injection e with e; injection e with e _; exact ik e
       have hH' : bd (m6 (fun s => { s with aP := [], ep := s.ep + 1 }) hM P) x.a x.j x.g = some H := by
         obtain ⟨sl, k1, k2, k3⟩ := bA hH; exact ph (by rw [dF, if_neg ik]; exact k1) k2 k3
       have LS : c1.own b = some (.sp x.a x.j) := Bh.stay b Bh.own (fun y _ q e => by rw [Bh.g0] at e; cases e); obtain ⟨Tf, hb5⟩ := Jo b LS; have JS : ∀ (i : Nat) zz, (A.xs.set x.i z')[i]? = some zz → gF w' (fun p k => (c5.iW ((List.range l.length).map (fun n => (P, n))) (.sp x.a x.j)).own k = some (.sp x.a x.j) ∧ g6 k = p) A.r [i] 0 b (o + i * A.r.width) zz := by
         intro i zz Om; rw [List.getElem?_set] at Om
         by_cases e : x.i = i
         · subst e; rw [if_pos rfl, if_pos Bh.len] at Om
           cases Om
           obtain ⟨vs, r1, r2⟩ := (jN _ _ _ _ _ _).1 (Bh.rows x.i z hz); have wG := dD.length _ _ _ _ _ r2; refine (jN _ _ _ _ _ _).2 ⟨vs, fun k v hkv => by rw [World.cell?_of_block (w := w) Tf]; exact r1 k v hkv, ?_⟩; refine Aw 0 l z hj (fun m y hm B hB SN N7 hBr => ?_) ?_
           · rw [Nat.zero_add] at hB; obtain ⟨v, u1, u2, u3, u4⟩ := Bh.out m y hm; obtain ⟨y', f1, f2, f3, f4⟩ := hPs m B hB; rw [hm] at f1
             cases f1
             have hk : y.k < vs.length := by rw [wG]; exact u4
             have hvk : vs[y.k]? = some vs[y.k] := List.getElem?_eq_getElem hk; have := r1 y.k _ hvk; rw [u1] at this; refine ⟨v, by rw [hvk, ← Option.some.inj this], ?_⟩; refine hG m B y hB SN (by rw [N7, hBr]) hm v u2 (by rw [f4, f2, f3, hP]; exact u3) _ _ (fun k hk => ⟨Cz.ni (zZ m y hm) hk, ?_⟩); exact YE m y k hm hk
           · refine iO.of _ [x.i] (fun k q kb hK hk => ?_) 0 vs z r2; have rP := Bh.stay kb hk.1 (fun y hy q' e => hK ⟨y, hy, by
               have h2 := hk.2; rw [e] at h2; simp at h2; exact h2.1⟩)
             obtain ⟨f1, f2⟩ := Jo kb rP; exact ⟨f1, Kl kb f2, by rw [On kb f2]; exact hk.2⟩
         · rw [if_neg e] at Om; refine gF.go _ [i] [i] (fun q kb hk => ?_) _ _ _ zz Tf (Bh.rows i zz Om); have rP := Bh.stay kb hk.1 (fun y _ q' e' => e (by
             have h2 := hk.2; rw [e'] at h2; simp at h2; exact h2.1))
           obtain ⟨f1, f2⟩ := Jo kb rP; exact ⟨f1, Kl kb f2, by rw [On kb f2]; exact hk.2⟩
       refine ⟨_, hrl.swap hH' (B := A.put (A.xs.set x.i z')) (by rw [q2, e1]; rfl) (by rw [q3, e2]; show (A.xs.set x.i z').length = _; simp) ?_⟩; unfold cu at hA ⊢; show match c5.lc x.a x.j with | .nil => _ | .at b off cap => _
       rw [YD]; rw [Bh.lc] at hA; obtain ⟨_, g2, ⟨cur, ty, g3, g4⟩, _⟩ := hA; refine ⟨?_, by show (A.xs.set x.i z').length ≤ cap; simpa using g2, ⟨cur, ty, by rw [Tf]; exact g3, g4⟩, ?_⟩
       · show match A.own with | true => _ | false => _
         rw [gG]; exact Kl b hb5
       · unfold cg; show match A.md with | .sh => _ | .dp => _ | .ho _ => _
         rw [zh]; exact ⟨g6, by rw [On b hb5]; exact Bh.g0, JS⟩
theorem G3 {α β : Type} (f : α → β) : (l : List α) → (n : Nat) → nth (l.map f) n = (nth l n).map f
 | [], _ => rfl
 | _ :: _, 0 => rfl
 | _ :: l, n + 1 => G3 f l n
theorem pF (st : St) (s : Nat) : nth (s7 st) s = (nth st s).map (Nf st) := G3 _ _ _
theorem BV (st : St) (a j g : Nat) : bd (s7 st) a j g = bd st a j g := by
 unfold bd; rw [pF]
 cases nth st a <;> rfl
theorem BW (st : St) (a : Nat) : dv (s7 st) a = dv st a := by
 unfold dv; rw [pF]
 cases nth st a <;> rfl
theorem BX (st : St) (a : Nat) : gD (s7 st) a = gD st a := by
 unfold gD; rw [pF]
 cases nth st a <;> rfl
theorem Km (st : St) (a : Nat) : my (s7 st) a = my st a := by
 unfold my; rw [pF]
 cases nth st a <;> rfl
theorem BY (st : St) (b g : Nat) : dE (s7 st) b g = (dE st b g).map fun cs => cs.map (yz st) := by
 unfold dE; rw [pF]
 cases nth st b with
 | none => rfl
 | some x =>
   show (bif Nat.beq x.bg g then x.box.map _ else none) = _; simp only
   cases Nat.beq x.bg g <;> rfl
theorem Fw.s7 (c : Cz) (st : St) (w : World) : Fw c st w c (s7 st) w where
 stays := iU.refl w _
 refs a j g A' _ ew := by
   rw [BV] at ew; exact ⟨A', ew, rfl, rfl, rfl, fun _ => ⟨rfl, fun _ _ _ _ => rfl⟩⟩
 zg b g nc _ h := by
   rw [BY] at h; obtain ⟨cs, h1, _⟩ := Option.map_eq_some_iff.1 h; exact ⟨⟨cs, h1⟩, rfl⟩
 gA a := by rw [BW]; exact Nat.le_refl _
 gB a := by rw [BX]; exact Nat.le_refl _
 gE a := by rw [Km]; exact Nat.le_refl _
theorem Em {w0 : World} {mu : Mu} {c : Cz} {st : St} {a : Act} {w : World} (h : Rel w0 mu c st a w) {x : CV} {v : Value} (hr : jG c st w x v) : jG c st w (yz st x) v := by
 unfold yz
 split
 · split
   · rename_i A hA
     cases ho : A.own with
     | true => exact hr
     | false =>
       cases hm : A.md.is .sh with
       | false => exact hr
       | true =>
         have hm := Md.oB.1 hm; exact wL (h.sx hA) (hr.2.2 A hA) (ok := c.ok) (fun b h => h) (fun b q => by
           rcases q with q | q
           · rw [ho] at q; cases q
           · rw [hm] at q; cases q) (by rw [hm]; rfl)
   · exact hr
 · exact hr
theorem En {w0 : World} {mu : Mu} {c : Cz} {st : St} {a : Act} {w : World} (h : Rel w0 mu c st a w) {cs : List CV} {vs : List Value} (hr : fo c st w cs vs) : fo c (s7 st) w (cs.map (yz st)) vs := by
 refine ⟨by rw [List.length_map]; exact hr.1, fun i x v h1 h2 => ?_⟩; rw [List.getElem?_map] at h1; obtain ⟨y, hy, rfl⟩ := Option.map_eq_some_iff.1 h1; exact (Fw.s7 c st w).JJ (Em h (hr.2 i y v hy h2))
theorem Ko {w0 : World} {mu : Mu} {c : Cz} {st : St} {a : Act} {w : World} (h : Rel w0 mu c st a w) {x : V} {v : Value} (hr : eF c st w x v) : eF c (s7 st) w (JH st x) v := by
 cases x with
 | one x => exact (Fw.s7 c st w).JJ (Em h hr)
 | agg cs =>
   obtain ⟨vs, h1, h2⟩ := hr; exact ⟨vs, h1, En h h2⟩
 | nb us => exact (Fw.s7 c st w).m8 hr
theorem Rel.s7 {w0 : World} {mu : Mu} {c : Cz} {st : St} {a : Act} {w : World} (h : Rel w0 mu c st a w) : Rel w0 mu c (s7 st) a w where
 fp t := by
   have e : cz (Go.TM.s7 st) t = JH st (cz st t) := by
     unfold cz; rw [pF]
     cases nth st t <;> rfl
   rw [e]; exact Ko h (h.fp t)
 boxes s sl cs hs hb := by
   rw [pF] at hs; obtain ⟨x, hx, rfl⟩ := Option.map_eq_some_iff.1 hs; have hb : x.box.map (fun cs => cs.map (yz st)) = some cs := hb; obtain ⟨Jm, hc, rfl⟩ := Option.map_eq_some_iff.1 hb; obtain ⟨k1, vs, ty, k2, k3⟩ := h.boxes s x Jm hx hc; exact ⟨k1, vs, ty, k2, En h k3⟩
 aP s j sl A hs hb := by
   rw [pF] at hs; obtain ⟨x, hx, rfl⟩ := Option.map_eq_some_iff.1 hs; exact h.aP s j x A hx hb
 owned := h.owned
 free := h.free
 kept := h.kept
 old := h.old
 plain := h.plain
 ed p hp := by
   have h0 := h.ed p hp
   cases p with
   | arr a j g W n l =>
     refine ⟨by rw [BW]; exact h0.1, fun A hA => ?_⟩; rw [BV] at hA; exact h0.2 A hA
   | box b g od =>
     refine ⟨by rw [BX]; exact h0.1, fun cs uB => ?_⟩; rw [BY] at uB; obtain ⟨Jm, hc, _⟩ := Option.map_eq_some_iff.1 uB; exact h0.2 Jm hc
theorem Eo {w0 : World} {mu : Mu} {c : Cz} {st : St} {a : Act} {w : World} (ms : List (Pm × V)) (h : Rel w0 mu c st a w) : Rel w0 mu c (yA ms st) a w ∧ ∀ x v, eF c st w x v → eF c (yA ms st) w x v := by
 unfold yA
 cases ms.any (fun m => m.1.JI)
 · exact ⟨h, fun _ _ hr => hr⟩
 · exact ⟨h.s7, fun _ _ hr => (Fw.s7 c st w).m8 hr⟩
theorem Ep {P : Program} {S : ld} (hS : oL P S) {w0 : World} {mu : Mu} {c : Cz} {st bf : St} {a : Act} {w : World} (h : Rel w0 mu c st a w) {o : Oper} {f : FuncId} {vals : Array Value} {xs : List V}
   (rh : ∀ fn, P.funcs[f]? = some fn → fn.name ≠ "runtime.NumGoroutine" → fn.body ≠ none → (execOp a.eval o).run P w = .ok (.enter f vals) w)
   (GP : xs.length = vals.toList.length) (Tg : ∀ (k : Nat) (m : V) (x : Value), xs[k]? = some m → vals.toList[k]? = some x → eF c st w m x)
   (hv : (BE S st o.dst f xs).val = some bf) (hd : ∀ k, o.dst = some k → k < a.tmps.size) : uI P w0 mu bf o a w (qy S st f xs) := by
 unfold qy; unfold BE at hv
 cases hf : S f with
 | none => simp [hf, N.val] at hv
 | some p =>
   obtain ⟨m1, m2, m3, yy⟩ := p; simp only [hf] at hv ⊢; obtain ⟨Mm, fn, Kp, YF, Th⟩ := hS f m1 m2 m3 yy hf; have rh := rh fn Kp (by simpa using YF) (by intro e; rw [e] at Th; cases Th); have Oo := HX m1 m2 m3 xs; generalize tU m1 m2 m3 xs = ms at hv Oo ⊢; have hlen : ms.length = vals.toList.length := by
     have := congrArg List.length Oo; rw [List.length_map] at this; omega
   have uO : ∀ (k : Nat) (m : Pm × V) (x : Value), ms[k]? = some m → vals.toList[k]? = some x → eF c st w m.2 x := by
     intro k m x hm hx; have h1 : (ms.map (·.2))[k]? = some m.2 := by rw [List.getElem?_map, hm]; rfl
     rw [Oo] at h1; exact Tg k m.2 x h1 hx
   have hR := h.freeze (zN st ms); have yR : ∀ (k : Nat) (m : Pm × V) (x : Value), ms[k]? = some m → vals.toList[k]? = some x → eF (c.drop (zN st ms)) (freeze st (zN st ms)) w m.2 x := fun k m x h1 h2 => (Fw.freeze w _ c st).m8 (uO k m x h1 h2)
   generalize freeze st (zN st ms) = Ti at hv hR yR ⊢; generalize c.drop (zN st ms) = c0 at hR yR; have yR : ∀ (k : Nat) (m : Pm × V) (x : Value), ms[k]? = some m → vals.toList[k]? = some x → eF c0 (yA ms Ti) w m.2 x := fun k m x h1 h2 => (Eo ms hR).2 _ _ (yR k m x h1 h2)
   have hR := (Eo ms hR).1; generalize yA ms Ti = uN at hv hR yR ⊢; unfold Nd at hv
   cases ss : mi uN ms with
   | none =>
     rw [ss] at hv; exact Eh hR rh Mm hlen yR hv hd (fun h => h) (fun c5 hM a2 w' hr _ _ HY => by
       simp only [N.val, Option.some.injEq] at HY; subst HY; exact ⟨c5, hr⟩)
   | some p =>
     obtain ⟨x, A, l⟩ := p; rw [ss] at hv; simp only at hv ⊢; have Tj : ∀ m ∈ ms, ∃ v, eF c0 uN w m.2 v := by
       intro m hm; obtain ⟨k, hk⟩ := List.mem_iff_getElem?.1 hm; have dC : k < vals.toList.length := by rw [← hlen]; exact (List.getElem?_eq_some_iff.1 hk).1
       exact ⟨_, yR k m _ hk (List.getElem?_eq_getElem dC)⟩
     obtain ⟨c1, gg, b, oo, cap, YG, Xp, Bh, Er⟩ := uQ hR ss Tj; obtain ⟨hl, hA, gG, zh, hep, n6, H2, ik⟩ := xf ss; refine Eh YG rh Mm (by rw [List.length_map]; exact hlen) (fun k m v h1 h2 => ?_) hv hd (fun h => by cases h) (fun c5 hM a2 w' hr hf Jo HY => ?_)
     · rw [List.getElem?_map] at h1; obtain ⟨m0, Oq, rfl⟩ := Option.map_eq_some_iff.1 h1; exact Er m0 (List.mem_of_getElem? Oq) v (yR k m0 v Oq h2)
     · refine Kk ik hA gG zh (hR.sx hA) H2 Bh hr hf (fun k hk => ?_) HY; have H3 : ¬ uP (eE uN x A l) (x.a, x.j) := by
         rintro ⟨g', B, hB, N7⟩
         obtain ⟨sl, k1, k2, k3⟩ := bA hB; rw [uR ik, if_neg ik, if_pos rfl] at k1; obtain ⟨zz, Om, rfl⟩ := Option.map_eq_some_iff.1 k1; simp only at k3; rw [dF, if_pos rfl] at k3
         cases hq : nth zz.aP x.j with
         | none => rw [hq] at k3; cases k3
         | some B2 =>
           rw [hq] at k3; simp only [Option.map_some, Option.some.injEq] at k3; subst k3
           cases N7
       cases hex : iM (eE uN x A l) (ms.map (L0 (uN.length - 1) (oa uN (uN.length - 1) + 1) l)) with
       | none =>
         unfold DK at hv; rw [hex] at hv
         cases hv
       | some pp =>
         obtain ⟨eA, u, q, r⟩ := pp; obtain ⟨l1, l2⟩ := yP _ hex; exact Jo eA u q r hex k _ rfl (fun hm => H3 (l1 _ _ hm)) (fun p hp e => by
           injection e with e1 e2; exact H3 (by rw [e1, e2]; exact l2 p hp)) hk
theorem Kq {P : Program} {S : ld} (hS : oL P S) {w0 : World} {mu : Mu} {c : Cz} {st bf : St} {a : Act} {w : World} (h : Rel w0 mu c st a w) {o : Oper} {f : FuncId} {args : Array Operand} {HO : Array TypeId} (ho : o.op = .call { callee := .value (.func f), args := args, argTypes := HO })
   (hv : (BE S st o.dst f (args.toList.map (lU st))).val = some bf) (hd : ∀ k, o.dst = some k → k < a.tmps.size) : uI P w0 mu bf o a w (kindOk S st o .one) := by
 have YH : kindOk S st o .one = qy S st f (args.toList.map (lU st)) := by unfold kindOk; simp only [ho]
 rw [YH]; refine Ep (vals := args.map a.eval) hS h (fun fn Kp q2 q3 => ?_) (by simp) (fun k m x hm hx => ?_) hv hd
 · simp only [execOp, ho]; simp [resolve, Act.eval, Deferred.ofValue, invoke, callFunc, Sem.run_bind, Kp, q2, q3]
 · rw [List.getElem?_map] at hm; rw [Array.toList_map, List.getElem?_map] at hx
   cases hy : args.toList[k]? with
   | none => rw [hy] at hm; simp at hm
   | some y =>
     rw [hy] at hm hx; simp only [Option.map_some, Option.some.injEq] at hm hx; rw [← hm, ← hx]; exact bH h y
theorem Kr {P : Program} {S : ld} (hS : oL P S) {w0 : World} {mu : Mu} {c : Cz} {st bf : St} {a : Act} {w : World} (h : Rel w0 mu c st a w) {o : Oper} {t g : Nat} {rs : RT} {xs : List (ar rs)} {x : ar rs} {args : Array Operand} {HO : Array TypeId} (ho : o.op = .call { callee := .value (.tmp t), args := args, argTypes := HO })
   (ht : cz st t = .one (.fn g rs xs)) (JM : xs[0]? = some x) (hv : (BE S st o.dst g (args.toList.map (lU st) ++ tV rs x)).val = some bf) (hd : ∀ k, o.dst = some k → k < a.tmps.size) : uI P w0 mu bf o a w (kindOk S st o .one) := by
 have YH : kindOk S st o .one = qy S st g (args.toList.map (lU st) ++ tV rs x) := by unfold kindOk; simp only [ho, ht, JM]
 rw [YH]; have Mm := h.fp t; rw [ht] at Mm; obtain ⟨uu, e, Tk⟩ := Mm; obtain ⟨k1, k2⟩ := D1 (st := st) rs uu.toList x (Tk x JM); refine Ep (vals := args.map a.eval ++ uu) hS h (fun fn Kp q2 q3 => ?_) (by simp [k1]) (fun k m y hm hy => ?_) hv hd
 · simp only [execOp, ho]; simp [resolve, e, Deferred.ofValue, invoke, callFunc, Sem.run_bind, Kp, q2, q3]
 · rw [Array.toList_append] at hy
   by_cases hk : k < args.size
   · rw [List.getElem?_append_left (by simpa using hk)] at hm hy; rw [List.getElem?_map] at hm; rw [Array.toList_map, List.getElem?_map] at hy
     cases hz : args.toList[k]? with
     | none => rw [hz] at hm; simp at hm
     | some z =>
       rw [hz] at hm hy; simp only [Option.map_some, Option.some.injEq] at hm hy; rw [← hm, ← hy]; exact bH h z
   · rw [List.getElem?_append_right (by simp; omega)] at hm hy; simp only [List.length_map, Array.length_toList, Array.toList_map] at hm hy; exact k2 _ m y hm hy
theorem FQ {P : Program} {T : la} (hT : gq P T) {S : ld} {w0 : World} {mu : Mu} {c : Cz} {st bf : St} {a : Act} {w : World} (h : Rel w0 mu c st a w) {o : Oper} (ss : DL st o = true)
   (hv : (Fe T S st o).val = some bf) (hd : ∀ k, o.dst = some k → k < a.tmps.size) : uI P w0 mu bf o a w (kindOk S st o .one) := by
 unfold DL at ss
 cases ho : o.op with
 | call cl =>
   obtain ⟨callee, args, HO⟩ := cl; rw [ho] at ss
   cases callee with
   | builtin b =>
     cases b with
     | append =>
       unfold Fe at hv; simp only [ho] at hv ss
       split at hv
       · contradiction
       · rename_i x y t u _ ha ht; obtain ⟨Oc, wH⟩ := dJ hv; have Oc := Nat.eq_of_beq_eq_true Oc; subst Oc; have ha : args = #[x, y] := by rw [← Array.toArray_toList (xs := args), ha]
         have ht : HO = #[t, t] := by rw [← Array.toArray_toList (xs := HO), ht]
         subst ha ht; have ss : (mi st [(.io, lU st x)]).isSome = true := ss; obtain ⟨p, hp⟩ := Option.isSome_iff_exists.1 ss; obtain ⟨z, A, l⟩ := p; unfold Cy at wH; rw [hp] at wH; obtain ⟨c1, gg, b, oo, cap, YG, Xp, Bh, Er⟩ := uQ h hp (fun m hm => by
           rw [List.mem_singleton] at hm; subst hm; exact ⟨_, bH h x⟩)
         have hx := Er _ (List.mem_singleton.2 rfl) _ (bH h x); have hy := Xp.m8 (bH h y); obtain ⟨v, w', h1, c', h2⟩ := Ab (ty := o.type) hT YG hx hy wH hd; exact ti (c' := c') (by simp only [execOp, ho]; simp [resolve, invoke, builtin, Sem.run_bind, h1]) h2 (fun hk => by simp [kindOk, ho] at hk)
       all_goals (first | contradiction | (simp [N.val] at hv))
     | _ => simp at ss
   | _ => simp at ss
 | _ => rw [ho] at ss; simp at ss
theorem xh {P : Program} {T : la} (hT : gq P T) (hE : wc P T) {S : ld} (hS : oL P S) (w0 : World) (mu : Mu) (n : Nat) : tj P T S w0 mu n := by
 intro c st bf a w o h hn hd hv; have FP : ∀ k, o.dst = some k → k < a.tmps.size := fun k hk => by rw [hn]; exact hd k hk
 by_cases hf : Op.FJ o.op = true
 · cases ho : o.op with
   | call cl =>
     obtain ⟨callee, args, HO⟩ := cl
     cases callee with
     | value x =>
       cases x with
       | func f =>
         unfold Fe at hv; simp only [ho] at hv; exact Kq hS h ho hv FP
       | tmp t =>
         unfold Fe at hv; simp only [ho] at hv
         split at hv
         · rename_i g rs xs ht
           cases JM : xs[0]? with
           | none => simp [JM, N.val] at hv
           | some x =>
             simp only [JM] at hv; exact Kr hS h ho ht JM hv FP
         · simp [N.val] at hv
       | _ => rw [ho] at hf; simp [Op.FJ] at hf
     | _ => rw [ho] at hf; simp [Op.FJ] at hf
   | _ => rw [ho] at hf; simp [Op.FJ] at hf
 · cases ss : DL st o with
   | false => exact Ob hT hE h (by simpa using hf) ss hv FP
   | true => exact FQ hT h ss hv FP
end Go.TM
namespace Go.TM
open Go Go.RowKit
inductive OP where
 | int (k : IntKind)
 | bool
 | str
 | own (r : RT) (d : Md := .sh)
 | shr (r : RT)
 | k9 (r : RT)
 | fn (g : Nat) (rs : RT)
inductive AP where
 | val (agg : Bool) (ps : List OP)
 | io (r : RT) (d : Md := .sh)
 | box (Cu : Bool) (ps : List OP)
 | bQ (ps : List OP)
def OP.ty : OP → Ty
 | .int k => .int k
 | .bool => .bool
 | .str => .str
 | .own r _ => .sl r
 | .shr r => .sl r
 | .k9 r => .sl r
 | .fn _ rs => .sl rs
def OP.ob : OP → Bool
 | .own _ _ => true
 | _ => false
def mQ : List OP → RT → RT
 | [], t => t
 | p :: ps, t => .cons p.ty (mQ ps t)
def AP.rt : AP → RT → RT
 | .val _ ps, t => mQ ps t
 | .io r _, t => .cons (.sl r) t
 | .box _ ps, t => mQ ps t
 | .bQ ps, t => mQ ps t
def aE : List (Option AP) → RT
 | [] => .nil
 | none :: l => aE l
 | some p :: l => p.rt (aE l)
def OP.ov : (p : OP) → den p.ty → OV
 | .int k, n => .int k n
 | .bool, b => .bool b
 | .str, s => .str s
 | .own r d, xs => .own { r := r, own := true, xs := xs, md := d }
 | .shr r, xs => .shr r xs
 | .k9 r, xs => .k9 r xs
 | .fn g rs, xs => .fn g rs xs
def dG : (ps : List OP) → (t : RT) → ar (mQ ps t) → List OV × ar t
 | [], _, x => ([], x)
 | p :: ps, t, x => (p.ov x.1 :: (dG ps t x.2).1, (dG ps t x.2).2)
def AP.av : (p : AP) → (t : RT) → ar (p.rt t) → AV × ar t
 | .val agg ps, t, x => (.val agg (dG ps t x).1, (dG ps t x).2)
 | .io r d, _, x => (.io { r := r, own := true, xs := x.1, md := d }, x.2)
 | .box _ ps, t, x => (.box (dG ps t x).1, (dG ps t x).2)
 | .bQ ps, t, x => (.bQ (dG ps t x).1, (dG ps t x).2)
def cP : (l : List (Option AP)) → ar (aE l) → List (Option AV)
 | [], _ => []
 | none :: l, x => none :: cP l x
 | some p :: l, x => some (p.av (aE l) x).1 :: cP l (p.av (aE l) x).2
def tY : (p : OP) → OV → Option (den p.ty)
 | .int k, .int l n => if k = l then some n else none
 | .bool, .bool b => some b
 | .str, .str s => some s
 | .own r d, .own A => bif A.md.is d then cm r A.xs else none
 | .own _ _, .ea => some ([] : List _)
 | .shr r, .shr _ xs => cm r xs
 | .shr _, .ea => some ([] : List _)
 | .k9 r, .k9 _ xs => cm r xs
 | .fn g rs, .fn f _ xs => bif Nat.beq f g then cm rs xs else none
 | _, _ => none
def eG : (ps : List OP) → (t : RT) → List OV → ar t → Option (ar (mQ ps t))
 | [], _, [], y => some y
 | p :: ps, t, o :: os, y => match tY p o, eG ps t os y with
   | some x, some z => some (x, z)
   | _, _ => none
 | _, _, _, _ => none
def G4 : (p : AP) → (t : RT) → AV → ar t → Option (ar (p.rt t))
 | .val true ps, t, .val true os, y => eG ps t os y
 | .val false ps, t, .val false os, y => eG ps t os y
 | .io r d, _, .io A, y => bif A.md.is d then (match cm r A.xs with
   | some xs => some (xs, y)
   | none => none) else none
 | .box _ ps, t, .box os, y => eG ps t os y
 | .bQ ps, t, .bQ os, y => eG ps t os y
 | _, _, _, _ => none
def hY : (l : List AP) → List AV → Option (ar (aE (l.map some)))
 | [], [] => some ()
 | p :: l, a :: as => match hY l as with
   | some y => G4 p (aE (l.map some)) a y
   | none => none
 | _, _ => none
def kG (st : St) : (ps : List OP) → (t : RT) → List CV → ar t → Option (ar (mQ ps t) × List (Option Lb) × List (Nat × Nat))
 | [], _, [], y => some (y, [], [])
 | p :: ps, t, c :: cs, y => match gk st p.ob c, kG st ps t cs y with
   | some (o, u, r), some (z, us, rs) => match tY p o with
     | some x => some ((x, z), u :: us, r ++ rs)
     | none => none
   | _, _ => none
 | _, _, _, _ => none
def yS (st : St) (k : Nat) : (p : AP) → (t : RT) → V → ar t → Option (ar (p.rt t) × List Lb × List (Nat × Nat))
 | .val agg ps, t, v, y =>
   match agg, v with
   | true, .agg cs => (kG st ps t cs y).map fun q => (q.1, cn q.2.1, q.2.2)
   | false, .one c => (kG st ps t [c] y).map fun q => (q.1, cn q.2.1, q.2.2)
   | _, _ => none
 | .io r d, _, v, y =>
   match v with
   | .one (.ref a j g .full) => bif Nat.beq a k && (Nat.beq j 0 && Nat.beq g 1) then ((bd st a j g).bind fun A => bif A.own && A.md.is d then (cm r A.xs).map fun xs => ((xs, y), [.sp a j], []) else none) else none
   | _ => none
 | .box Cu ps, t, v, y =>
   match v with
   | .one (.ptr b g off) => bif Nat.beq off 0 && (!Cu || (Nat.beq b k && Nat.beq g 1)) then ((dE st b g).bind fun cs => (kG st ps t cs y).map fun q => (q.1, .box b :: cn q.2.1, q.2.2)) else none
   | _ => none
 | .bQ _, _, _, _ => none
def nk (st : St) : (k : Nat) → (l : List (Option AP)) → Option (ar (aE l) × List Lb × List (Nat × Nat))
 | _, [] => some ((), [], [])
 | k, none :: l => nk st (k + 1) l
 | k, some p :: l => match nk st (k + 1) l with
   | some (y, us, rs) => match yS st k p (aE l) (cz st k) y with
     | some (x, u, r) => some (x, u ++ us, r ++ rs)
     | none => none
   | none => none
def Sl.blank : Sl := { v := .one .bad, box := .none, bg := 1, aP := [], ag := 1 }
def dm (k : Nat) : Option AV → Sl
 | none => Sl.blank
 | some (.bQ os) => { v := .agg (bm k 1 0 os), box := none, bg := 1, aP := bq os, ag := 1 }
 | some (.val true os) => { v := .agg (bm k 1 0 os), box := none, bg := 1, aP := bq os, ag := 1 }
 | some (.val false os) => { v := match bm k 1 0 os with | [c] => .one c | _ => .one .bad, box := none, bg := 1, aP := bq os, ag := 1 }
 | some (.io A) => { v := .one (.ref k 0 1 .full), box := none, bg := 1, aP := [some A], ag := 1 }
 | some (.box os) => { v := .one (.ptr k 1 0), box := some (bm k 1 0 os), bg := 1, aP := bq os, ag := 1 }
def oe : (k : Nat) → List (Option AV) → St
 | _, [] => []
 | k, a :: l => dm k a :: oe (k + 1) l
theorem BZ : (l : List (Option AV)) → (k i : Nat) → nth (oe k l) i = (l[i]?).map (dm (k + i))
 | [], _, _ => by simp [oe]
 | a :: l, k, 0 => by simp [oe, nth]
 | a :: l, k, i + 1 => by
   simp only [oe, nth, List.getElem?_cons_succ]; rw [BZ l (k + 1) i, show k + 1 + i = k + (i + 1) by omega]
theorem Es {c : Cz} {w : World} {f : Nat → Lb} {j : Nat} : (p : OP) → (o : OV) → (x : den p.ty) → tY p o = some x → {os w6 : List OV} → {vs : List Value} → (∀ l, bI c w f (j + 1) os l → bI c w f (j + 1) w6 l) → bI c w f j (o :: os) vs → bI c w f j (p.ov x :: w6) vs
 | .int k, .int l n, x, hx, os, w6, vs, rQ, h => by
   have hx : (if k = l then some (n : Int) else none) = some (x : Int) := hx
   by_cases e : k = l
   · rw [if_pos e] at hx; have hx : n = x := Option.some.inj hx; obtain ⟨l', h1, h2⟩ := h; exact ⟨l', by rw [h1, e, hx], rQ _ h2⟩
   · rw [if_neg e] at hx
     cases hx
 | .bool, .bool b, x, hx, os, w6, vs, rQ, h => by
   have hx : b = x := Option.some.inj hx; subst hx; obtain ⟨l', h1, h2⟩ := h; exact ⟨l', h1, rQ _ h2⟩
 | .str, .str b, x, hx, os, w6, vs, rQ, h => by
   have hx : b = x := Option.some.inj hx; subst hx; obtain ⟨l', h1, h2⟩ := h; exact ⟨l', h1, rQ _ h2⟩
 | .own r d, .own A, x, hx, os, w6, vs, rQ, h => by
   obtain ⟨v, l', h1, ⟨lc, h2⟩, h3⟩ := h; have hx : (bif A.md.is d then cm r A.xs else none) = some x := hx; obtain ⟨hd, hx⟩ := aI hx; have hd := Md.oB.1 hd; obtain ⟨e, rfl⟩ := bD hx; obtain ⟨r0, FD, Xj, Xk⟩ := A; simp only at e hd; subst e hd; have ho : FD = true := h2.2.2.1; subst ho; exact ⟨v, l', h1, ⟨lc, h2⟩, rQ _ h3⟩
 | .own r _, .ea, x, hx, os, w6, vs, rQ, h => by
   have hx : ([] : List (ar r)) = x := Option.some.inj hx; subst hx; obtain ⟨l', h1, h2⟩ := h; exact ⟨_, l', h1, ⟨.nil, rfl, ⟨rfl, rfl⟩, rfl, rfl⟩, rQ _ h2⟩
 | .shr r, .shr q xs, x, hx, os, w6, vs, rQ, h => by
   obtain ⟨v, l', h1, h2, h3⟩ := h; have hx : cm r xs = some x := hx; obtain ⟨e, rfl⟩ := bD hx; subst e; exact ⟨v, l', h1, h2, rQ _ h3⟩
 | .shr r, .ea, x, hx, os, w6, vs, rQ, h => by
   have hx : ([] : List (ar r)) = x := Option.some.inj hx; subst hx; obtain ⟨l', h1, h2⟩ := h; exact ⟨_, l', h1, (oc _ _ _ _ _).2 (.inl ⟨rfl, rfl⟩), rQ _ h2⟩
 | .k9 r, .k9 q xs, x, hx, os, w6, vs, rQ, h => by
   obtain ⟨v, l', h1, h2, h3⟩ := h; have hx : cm r xs = some x := hx; obtain ⟨e, rfl⟩ := bD hx; subst e; exact ⟨v, l', h1, h2, rQ _ h3⟩
 | .fn g r, .fn f q xs, x, hx, os, w6, vs, rQ, h => by
   obtain ⟨v, l', h1, h2, h3⟩ := h; have hx : (bif Nat.beq f g then cm r xs else none) = some x := hx; obtain ⟨YI, hx⟩ := aI hx; have YI := Nat.eq_of_beq_eq_true YI; subst YI; obtain ⟨e, rfl⟩ := bD hx; subst e; exact ⟨v, l', h1, h2, rQ _ h3⟩
 | .int _, .bool _, _, hx, _, _, _, _, _ => by cases hx
 | .int _, .str _, _, hx, _, _, _, _, _ => by cases hx
 | .int _, .own _, _, hx, _, _, _, _, _ => by cases hx
 | .int _, .shr _ _, _, hx, _, _, _, _, _ => by cases hx
 | .int _, .ea, _, hx, _, _, _, _, _ => by cases hx
 | .int _, .k9 _ _, _, hx, _, _, _, _, _ => by cases hx
 | .int _, .fn _ _ _, _, hx, _, _, _, _, _ => by cases hx
 | .bool, .int _ _, _, hx, _, _, _, _, _ => by cases hx
 | .bool, .str _, _, hx, _, _, _, _, _ => by cases hx
 | .bool, .own _, _, hx, _, _, _, _, _ => by cases hx
 | .bool, .shr _ _, _, hx, _, _, _, _, _ => by cases hx
 | .bool, .ea, _, hx, _, _, _, _, _ => by cases hx
 | .bool, .k9 _ _, _, hx, _, _, _, _, _ => by cases hx
 | .bool, .fn _ _ _, _, hx, _, _, _, _, _ => by cases hx
 | .str, .int _ _, _, hx, _, _, _, _, _ => by cases hx
 | .str, .bool _, _, hx, _, _, _, _, _ => by cases hx
 | .str, .own _, _, hx, _, _, _, _, _ => by cases hx
 | .str, .shr _ _, _, hx, _, _, _, _, _ => by cases hx
 | .str, .ea, _, hx, _, _, _, _, _ => by cases hx
 | .str, .k9 _ _, _, hx, _, _, _, _, _ => by cases hx
 | .str, .fn _ _ _, _, hx, _, _, _, _, _ => by cases hx
 | .own _ _, .int _ _, _, hx, _, _, _, _, _ => by cases hx
 | .own _ _, .bool _, _, hx, _, _, _, _, _ => by cases hx
 | .own _ _, .str _, _, hx, _, _, _, _, _ => by cases hx
 | .own _ _, .shr _ _, _, hx, _, _, _, _, _ => by cases hx
 | .own _ _, .k9 _ _, _, hx, _, _, _, _, _ => by cases hx
 | .own _ _, .fn _ _ _, _, hx, _, _, _, _, _ => by cases hx
 | .shr _, .int _ _, _, hx, _, _, _, _, _ => by cases hx
 | .shr _, .bool _, _, hx, _, _, _, _, _ => by cases hx
 | .shr _, .str _, _, hx, _, _, _, _, _ => by cases hx
 | .shr _, .own _, _, hx, _, _, _, _, _ => by cases hx
 | .shr _, .k9 _ _, _, hx, _, _, _, _, _ => by cases hx
 | .shr _, .fn _ _ _, _, hx, _, _, _, _, _ => by cases hx
 | .k9 _, .int _ _, _, hx, _, _, _, _, _ => by cases hx
 | .k9 _, .bool _, _, hx, _, _, _, _, _ => by cases hx
 | .k9 _, .str _, _, hx, _, _, _, _, _ => by cases hx
 | .k9 _, .own _, _, hx, _, _, _, _, _ => by cases hx
 | .k9 _, .shr _ _, _, hx, _, _, _, _, _ => by cases hx
 | .k9 _, .ea, _, hx, _, _, _, _, _ => by cases hx
 | .k9 _, .fn _ _ _, _, hx, _, _, _, _, _ => by cases hx
 | .fn _ _, .int _ _, _, hx, _, _, _, _, _ => by cases hx
 | .fn _ _, .bool _, _, hx, _, _, _, _, _ => by cases hx
 | .fn _ _, .str _, _, hx, _, _, _, _, _ => by cases hx
 | .fn _ _, .own _, _, hx, _, _, _, _, _ => by cases hx
 | .fn _ _, .shr _ _, _, hx, _, _, _, _, _ => by cases hx
 | .fn _ _, .ea, _, hx, _, _, _, _, _ => by cases hx
 | .fn _ _, .k9 _ _, _, hx, _, _, _, _, _ => by cases hx
theorem sH {c : Cz} {w : World} {f : Nat → Lb} : (ps : List OP) → (t : RT) → (os : List OV) → (y : ar t) → {x : ar (mQ ps t)} → eG ps t os y = some x → (dG ps t x).2 = y ∧ ∀ (j : Nat) (vs : List Value), bI c w f j os vs → bI c w f j (dG ps t x).1 vs
 | [], t, [], y, x, h => by
   have h : y = x := Option.some.inj h; subst h; exact ⟨rfl, fun _ _ h => h⟩
 | [], _, _ :: _, _, _, h => by simp [eG] at h
 | _ :: _, _, [], _, _, h => by simp [eG] at h
 | p :: ps, t, o :: os, y, x, h => by
   unfold eG at h
   cases h1 : tY p o with
   | none => simp [h1] at h
   | some a =>
     cases h2 : eG ps t os y with
     | none => simp [h1, h2] at h
     | some z =>
       simp only [h1, h2] at h; have h : (a, z) = x := Option.some.inj h; subst h; obtain ⟨g1, g2⟩ := sH (c := c) (w := w) (f := f) ps t os y h2; exact ⟨g1, fun j vs hh => Es p o a h1 (fun l => g2 (j + 1) l) hh⟩
theorem bI.Ks {c : Cz} {w : World} {f : Nat → Lb} : (os : List OV) → (j : Nat) → (vs : List Value) → bI c w f j os vs → vs.length = os.length ∧ ∀ (k : Nat) (o : OV) (u : Value), os[k]? = some o → vs[k]? = some u → bI c w f (j + k) [o] [u]
 | [], j, vs, h => by
   subst h; exact ⟨rfl, fun k o u h => by simp at h⟩
 | o :: os, j, vs, h => by
   obtain ⟨v, l, rfl, h1, h2⟩ : ∃ v l, vs = v :: l ∧ bI c w f j [o] [v] ∧ bI c w f (j + 1) os l := by
     cases o with
     | int k n => obtain ⟨l, h1, h2⟩ := h; exact ⟨_, l, h1, ⟨[], rfl, rfl⟩, h2⟩
     | bool b => obtain ⟨l, h1, h2⟩ := h; exact ⟨_, l, h1, ⟨[], rfl, rfl⟩, h2⟩
     | str b => obtain ⟨l, h1, h2⟩ := h; exact ⟨_, l, h1, ⟨[], rfl, rfl⟩, h2⟩
     | ea => obtain ⟨l, h1, h2⟩ := h; exact ⟨_, l, h1, ⟨[], rfl, rfl⟩, h2⟩
     | shr r xs => obtain ⟨v, l, h1, h2, h3⟩ := h; exact ⟨v, l, h1, ⟨v, [], rfl, h2, rfl⟩, h3⟩
     | k9 r xs => obtain ⟨v, l, h1, h2, h3⟩ := h; exact ⟨v, l, h1, ⟨v, [], rfl, h2, rfl⟩, h3⟩
     | fn g r xs => obtain ⟨v, l, h1, h2, h3⟩ := h; exact ⟨v, l, h1, ⟨v, [], rfl, h2, rfl⟩, h3⟩
     | own A => obtain ⟨v, l, h1, h2, h3⟩ := h; exact ⟨v, l, h1, ⟨v, [], rfl, h2, rfl⟩, h3⟩
   obtain ⟨g1, g2⟩ := bI.Ks os (j + 1) l h2; refine ⟨by simp [g1], fun k o' u ho hu => ?_⟩
   cases k with
   | zero =>
     simp only [List.getElem?_cons_zero, Option.some.injEq] at ho hu; subst ho hu; exact h1
   | succ k =>
     have := g2 k o' u (by simpa using ho) (by simpa using hu)
     rwa [show j + 1 + k = j + (k + 1) by omega] at this
theorem B3 : (ps : List OP) → (t : RT) → (os : List OV) → (y : ar t) → {x : ar (mQ ps t)} → eG ps t os y = some x → ∀ (k : Nat) (o' : OV), (dG ps t x).1[k]? = some o' → ∃ (p : OP) (o : OV) (z : den p.ty), os[k]? = some o ∧ tY p o = some z ∧ o' = p.ov z
 | [], t, [], y, x, h => by
   intro k o' hk; simp [dG] at hk
 | [], _, _ :: _, _, _, h => by simp [eG] at h
 | _ :: _, _, [], _, _, h => by simp [eG] at h
 | p :: ps, t, o :: os, y, x, h => by
   unfold eG at h
   cases h1 : tY p o with
   | none => simp [h1] at h
   | some a =>
     cases h2 : eG ps t os y with
     | none => simp [h1, h2] at h
     | some z =>
       simp only [h1, h2] at h; have h : (a, z) = x := Option.some.inj h; subst h; intro k o' hk
       cases k with
       | zero =>
         have hk : some (p.ov a) = some o' := hk; simp only [Option.some.injEq] at hk; exact ⟨p, o, a, rfl, h1, hk.symm⟩
       | succ k =>
         have hk : (dG ps t z).1[k]? = some o' := hk; obtain ⟨p', o1, z', q1, q2, q3⟩ := B3 ps t os y h2 k o' hk; exact ⟨p', o1, z', by simpa using q1, q2, q3⟩
theorem H4 {p : OP} {o : OV} {z : den p.ty} (h : tY p o = some z) {A : ig} (he : p.ov z = .own A) : (∃ B, o = .own B ∧ A.r = B.r ∧ A.own = true ∧ A.xs.length = B.xs.length ∧ (B.own = true → A = B)) ∨ (o = .ea ∧ ∃ r d, A = { r := r, own := true, xs := ([] : List (ar r)), md := d }) := by
 cases p with
 | own r d =>
   injection he with he; subst he
   cases o with
   | own B =>
     have h : (bif B.md.is d then cm r B.xs else none) = some z := h; obtain ⟨hd, h⟩ := aI h; have hd := Md.oB.1 hd; obtain ⟨e, rfl⟩ := bD h; obtain ⟨r0, FD, Xj, Xk⟩ := B; simp only at e hd; subst e hd; exact .inl ⟨_, rfl, rfl, rfl, rfl, fun ho => by simp only at ho; subst ho; rfl⟩
   | ea =>
     have h : ([] : List (ar r)) = z := Option.some.inj h; subst h; exact .inr ⟨rfl, r, d, rfl⟩
   | _ => cases h
 | int _ => cases he
 | bool => cases he
 | str => cases he
 | shr _ => cases he
 | k9 _ => cases he
 | fn _ _ => cases he
theorem Et {p : OP} (z : den p.ty) : p.ov z ≠ .ea := by
 cases p <;> (intro h; cases h)
theorem Eu {c : Cz} {w : World} {i : Nat} {lc : Nat → Loc} {p : AP} {t : RT} {av : AV} {y : ar t} {x : ar (p.rt t)} (h : G4 p t av y = some x) : (p.av t x).2 = y ∧ ∀ v, ru c w i lc av v → ru c w i lc (p.av t x).1 v := by
 cases p with
 | val agg ps =>
   cases agg with
   | true =>
     cases av with
     | val Mq os =>
       cases Mq with
       | true =>
         have h : eG ps t os y = some x := h; obtain ⟨g1, g2⟩ := sH (c := c) (w := w) (f := .cI i) ps t os y h; exact ⟨g1, fun v ⟨vs, hv, hl⟩ => ⟨vs, hv, g2 0 _ hl⟩⟩
       | false => cases h
     | _ => cases h
   | false =>
     cases av with
     | val Mq os =>
       cases Mq with
       | false =>
         have h : eG ps t os y = some x := h; obtain ⟨g1, g2⟩ := sH (c := c) (w := w) (f := .cI i) ps t os y h; exact ⟨g1, fun v hl => g2 0 _ hl⟩
       | true => cases h
     | _ => cases h
 | io r d =>
   cases av with
   | io A =>
     have h : (bif A.md.is d then (match cm r A.xs with | some xs => some ((xs, y) : ar (.cons (.sl r) t)) | none => none) else none) = some x := h; obtain ⟨hd, h⟩ := aI h; have hd := Md.oB.1 hd
     cases hc : cm r A.xs with
     | none => rw [hc] at h; cases h
     | some xs =>
       rw [hc] at h
       cases h
       refine ⟨rfl, fun v hl => ?_⟩; obtain ⟨e, rfl⟩ := bD hc; obtain ⟨r0, FD, Xj, Xk⟩ := A; simp only at e hd; subst e hd; have ho : FD = true := hl.2.2.1; subst ho; exact hl
   | _ => cases h
 | box Cu ps =>
   cases av with
   | box os =>
     have h : eG ps t os y = some x := h; obtain ⟨g1, g2⟩ := sH (c := c) (w := w) (f := .cI i) ps t os y h; exact ⟨g1, fun v ⟨od, vs, ty, q1, q2, q3, q4⟩ => ⟨od, vs, ty, q1, q2, q3, g2 0 _ q4⟩⟩
   | _ => cases h
 | bQ ps =>
   cases av with
   | bQ os =>
     have h : eG ps t os y = some x := h; obtain ⟨g1, g2⟩ := sH (c := c) (w := w) (f := .cI i) ps t os y h; refine ⟨g1, fun v ⟨vs, q1, q2, q3⟩ => ⟨vs, q1, g2 0 _ q2, fun j o u ho hu => ?_⟩⟩; obtain ⟨p, o0, z, k1, k2, rfl⟩ := B3 ps t os y h j o ho; have h0 := q3 j o0 u k1 hu; have hL := (bI.Ks os 0 _ q2).2 j o0 u k1 hu; unfold J5 at h0 ⊢
     cases he : p.ov z with
     | ea => exact absurd he (Et z)
     | own A =>
       rcases H4 k2 he with ⟨B, rfl, e1, e2, e3, e4⟩ | ⟨rfl, r, d, rfl⟩
       · have h0 : OwnAt c w (.cI i j) (lc j) B u := h0; have := e4 h0.2.2.1; subst this; exact h0
       · have h0 : lc j = .nil := h0; obtain ⟨l, hl, _⟩ := hL; injection hl with hl _; subst hl; show OwnAt c w (.cI i j) (lc j) _ _; rw [h0]; exact ⟨rfl, ⟨rfl, rfl⟩, rfl, rfl⟩
     | _ => trivial
   | _ => cases h
end Go.TM
namespace Go.TM
open Go Go.RowKit
theorem uS {w0 : World} {mu : Mu} {c : Cz} {st : St} {a : Act} {w : World} (h : Rel w0 mu c st a w) {ρ : Lb → Option Lb} {f : Nat → Lb} : (ps : List OP) → (t : RT) → (cs : List CV) → (y : ar t) → (vs : List Value) → (j : Nat) → fo c st w cs vs → {x : ar (mQ ps t)} → {u : List (Option Lb)} → {r : List (Nat × Nat)} →
   kG st ps t cs y = some (x, u, r) → (dG ps t x).2 = y ∧ (∀ l ∈ cn u, l.real = true) ∧ ((∀ k l, nth u k = some (some l) → ρ l = some (f (j + k))) → (∀ p ∈ r, ρ (.sp p.1 p.2) = none) → bI (c.map ρ) w f j (dG ps t x).1 vs)
 | [], t, [], y, vs, j, hl, x, u, r, he => by
   have he : some (y, ([] : List (Option Lb)), ([] : List (Nat × Nat))) = some (x, u, r) := he; injection he with he; injection he with e1 e2; injection e2 with e2 e3; subst e1 e2 e3; have := hl.1; simp at this; exact ⟨rfl, by simp [cn], fun _ _ => List.length_eq_zero_iff.1 this.symm⟩
 | [], t, _ :: _, y, vs, j, hl, x, u, r, he => by simp [kG] at he
 | _ :: _, t, [], y, vs, j, hl, x, u, r, he => by simp [kG] at he
 | p :: ps, t, cx :: cs, y, vs, j, hl, x, u, r, he => by
   obtain ⟨v, l, rfl, hx, um⟩ := hl.Nj; unfold kG at he
   cases hc : gk st p.ob cx with
   | none => simp [hc] at he
   | some q1 =>
     obtain ⟨o, u1, r1⟩ := q1
     cases hq : kG st ps t cs y with
     | none => simp [hc, hq] at he
     | some q2 =>
       obtain ⟨z, us, rs⟩ := q2; simp only [hc, hq] at he
       cases ho : tY p o with
       | none => simp [ho] at he
       | some a1 =>
         simp only [ho] at he; injection he with he; injection he with e1 e2; injection e2 with e2 e3; subst e1 e2 e3; obtain ⟨g1, g2, g3⟩ := uS h (ρ := ρ) (f := f) ps t cs y l (j + 1) um hq; refine ⟨g1, fun l' hm => ?_, fun hu hr => ?_⟩
         · rw [gR] at hm; rcases List.mem_cons.1 hm with hm | hm
           · obtain ⟨s, k, rfl⟩ := BP hc l' hm.symm; rfl
           · exact g2 l' (gR.2 hm)
         · have eU := g3 (fun k' l' hk => by
             have := hu (k' + 1) l' hk
             rwa [show j + (k' + 1) = j + 1 + k' by omega] at this) (fun p hp => hr p (List.mem_append_right _ hp))
           have h1 := GZ h (f := f) (j := j) hx hc (fun l' um => hu 0 l' (by rw [um]; rfl)) (fun p hp => hr p (List.mem_append_left _ hp)) eU; exact Es p o a1 ho (fun _ h => h) h1
def xZ (c : Cz) (w : World) (lc : Nat → Nat → Loc) (a : Act) (k : Nat) (l : List (Option AV)) : Prop :=
 ∀ i av, l[i]? = some (some av) → ru c w (k + i) (lc (k + i)) av (a.eval (.tmp (k + i)))
theorem xi {w0 : World} {mu : Mu} {c : Cz} {st : St} {a : Act} {w : World} (h : Rel w0 mu c st a w) (k : Nat) {p : AP} {t : RT} {V : V} {y : ar t} {v : Value} (hV : eF c st w V v) {x : ar (p.rt t)} {u : List Lb} {r : List (Nat × Nat)} (he : yS st k p t V y = some (x, u, r)) :
   (p.av t x).2 = y ∧ (∀ l ∈ u, l.real = true) ∧ ∃ tb : List (Lb × Lb), tb.map (·.1) = u ∧ (∀ p ∈ tb, p.2.j9 = true) ∧ ∀ ρ : Lb → Option Lb, (∀ p ∈ tb, ρ p.1 = some p.2) → (∀ p ∈ r, ρ (.sp p.1 p.2) = none) → ru (c.map ρ) w k (c.lc k) (p.av t x).1 v := by
 have vals : ∀ (ps : List OP) (cs : List CV) (x : ar (mQ ps t)) (us : List (Option Lb)) (rs : List (Nat × Nat)) (vs : List Value), fo c st w cs vs → kG st ps t cs y = some (x, us, rs) → (dG ps t x).2 = y ∧ (∀ l ∈ cn us, l.real = true) ∧
     ∀ ρ : Lb → Option Lb, (∀ p ∈ xa (.cI k) 0 us, ρ p.1 = some p.2) → (∀ p ∈ rs, ρ (.sp p.1 p.2) = none) → bI (c.map ρ) w (.cI k) 0 (dG ps t x).1 vs := by
   intro ps cs x us rs vs hl hq; refine ⟨(uS h (ρ := fun _ => none) (f := .cI k) ps t cs y vs 0 hl hq).1, (uS h (ρ := fun _ => none) (f := .cI k) ps t cs y vs 0 hl hq).2.1, fun ρ hp hr => (uS h (ρ := ρ) (f := .cI k) ps t cs y vs 0 hl hq).2.2 (fun k' l hk => ?_) hr⟩; have := hp _ (uL (.cI k) 0 us k' l hk); simpa using this
 cases p with
 | val agg ps =>
   cases agg with
   | true =>
     cases V with
     | agg cs =>
       have he : (kG st ps t cs y).map (fun q => (q.1, cn q.2.1, q.2.2)) = some (x, u, r) := he
       cases hq : kG st ps t cs y with
       | none => rw [hq] at he; cases he
       | some q =>
         obtain ⟨z, us, rs⟩ := q; rw [hq] at he; injection he with he; injection he with e1 e2; injection e2 with e2 e3; subst e1 e2 e3; obtain ⟨vs, rfl, hl⟩ := hV; obtain ⟨g1, g2, g3⟩ := vals _ _ _ _ _ _ hl hq; exact ⟨g1, g2, jH k (.val true []) [] us, mB _ _ _ _, mC _ _ _ _, fun ρ hp hr => ⟨vs, rfl, g3 ρ (fun p m9 => hp p (by simpa [jH] using m9)) hr⟩⟩
     | one _ => cases he
     | nb _ => cases he
   | false =>
     cases V with
     | one cx =>
       have he : (kG st ps t [cx] y).map (fun q => (q.1, cn q.2.1, q.2.2)) = some (x, u, r) := he
       cases hq : kG st ps t [cx] y with
       | none => rw [hq] at he; cases he
       | some q =>
         obtain ⟨z, us, rs⟩ := q; rw [hq] at he; injection he with he; injection he with e1 e2; injection e2 with e2 e3; subst e1 e2 e3; obtain ⟨g1, g2, g3⟩ := vals _ _ _ _ _ [v] ⟨rfl, fun k y z hy hz => by
           cases k with
           | zero => simp at hy hz; subst hy hz; exact hV
           | succ k => simp at hy⟩ hq
         exact ⟨g1, g2, jH k (.val true []) [] us, mB _ _ _ _, mC _ _ _ _, fun ρ hp hr => g3 ρ (fun p m9 => hp p (by simpa [jH] using m9)) hr⟩
     | agg _ => cases he
     | nb _ => cases he
 | io rr d =>
   cases V with
   | one cx =>
     cases cx with
     | ref s j g vw =>
       cases vw with
       | full =>
         have he : (bif Nat.beq s k && (Nat.beq j 0 && Nat.beq g 1) then ((bd st s j g).bind fun A => bif A.own && A.md.is d then (cm rr A.xs).map fun xs => ((xs, y), [Lb.sp s j], ([] : List (Nat × Nat))) else none) else none) = some (x, u, r) := he; obtain ⟨h1, vI⟩ := aI he; clear he; rw [Bool.and_eq_true, Bool.and_eq_true] at h1; have e1 := Nat.eq_of_beq_eq_true h1.1; have e2 := Nat.eq_of_beq_eq_true h1.2.1; subst e1 e2
         cases hA : bd st s 0 g with
         | none => rw [hA] at vI; cases vI
         | some A =>
           rw [hA] at vI; obtain ⟨ho, RE⟩ := aI vI; rw [Bool.and_eq_true] at ho; have hd := Md.oB.1 ho.2; have ho := ho.1
           cases hc : cm rr A.xs with
           | none => rw [hc] at RE; cases RE
           | some xs =>
             rw [hc] at RE; injection RE with RE; injection RE with e1 e2; injection e2 with e2 e3; subst e1 e2 e3; refine ⟨rfl, by simp [Lb.real], [(.sp s 0, .cI s 0)], rfl, by simp [Lb.j9], fun ρ hp _ => ?_⟩; have ha := vt h hA; have hs := hV.2.2 A hA; have hρ : ρ (.sp s 0) = some (.cI s 0) := hp (.sp s 0, .cI s 0) (by simp); obtain ⟨e, rfl⟩ := bD hc; obtain ⟨r0, FD, Xj, Xk⟩ := A; simp only at e hd; subst e hd; have ho : FD = true := by first | exact ho | exact ho.1
             subst ho; refine ⟨hV.1, hs, rfl, ?_⟩; unfold cu at ha
             cases iA : c.lc s 0 with
             | nil => rw [iA] at ha; exact ha
             | «at» b off cap =>
               rw [iA] at ha; obtain ⟨h0, h2, h3, h4⟩ := ha; exact ⟨(Cz.ku h0).trans hρ, h2, h3, h4.map hρ⟩
       | «from» _ => cases he
       | sub _ _ => cases he
     | _ => cases he
   | agg _ => cases he
   | nb _ => cases he
 | box Cu ps =>
   cases V with
   | one cx =>
     cases cx with
     | ptr b g off =>
       have he : (bif Nat.beq off 0 && (!Cu || (Nat.beq b k && Nat.beq g 1)) then ((dE st b g).bind fun cs => (kG st ps t cs y).map fun q => (q.1, Lb.box b :: cn q.2.1, q.2.2)) else none) = some (x, u, r) := he; obtain ⟨h1, vI⟩ := aI he; clear he; rw [Bool.and_eq_true] at h1; have e1 := Nat.eq_of_beq_eq_true h1.1; subst e1
       cases hb : dE st b g with
       | none => rw [hb] at vI; cases vI
       | some cs =>
         rw [hb] at vI; simp only [Option.bind_some] at vI
         cases hq : kG st ps t cs y with
         | none => rw [hq] at vI; cases vI
         | some q =>
           obtain ⟨z, us, rs⟩ := q; rw [hq] at vI; injection vI with vI; injection vI with e1 e2; injection e2 with e2 e3; subst e1 e2 e3; obtain ⟨sl, k1, k2, k3⟩ := il hb; obtain ⟨h1, vs, ty, h2, h3⟩ := h.boxes b sl cs k1 k3; obtain ⟨g1, g2, g3⟩ := vals _ _ _ _ _ _ h3 hq; refine ⟨g1, fun l hl => ?_, jH k (.box []) [.box b] us, by rw [mB]; rfl, mC _ _ _ _, fun ρ hp hr => ⟨c.bx b, vs, ty, hV.2.2 cs hb, ?_, h2, g3 ρ (fun p m9 => hp p (List.mem_append_right _ m9)) hr⟩⟩
           · rcases List.mem_cons.1 hl with rfl | hl
             · rfl
             · exact g2 l hl
           · exact (Cz.ku h1).trans (hp (.box b, .su k) (by simp [jH]))
     | _ => cases he
   | agg _ => cases he
   | nb _ => cases he
 | bQ ps => cases he
theorem uT {w0 : World} {mu : Mu} {c : Cz} {st : St} {a : Act} {w : World} (h : Rel w0 mu c st a w) : (l : List (Option AP)) → (k : Nat) → {x : ar (aE l)} → {u : List Lb} → {r : List (Nat × Nat)} → nk st k l = some (x, u, r) →
   (∀ l ∈ u, l.real = true) ∧ ∃ tb : List (Lb × Lb), tb.map (·.1) = u ∧ (∀ p ∈ tb, p.2.j9 = true) ∧ ∀ ρ : Lb → Option Lb, (∀ p ∈ tb, ρ p.1 = some p.2) → (∀ p ∈ r, ρ (.sp p.1 p.2) = none) → xZ (c.map ρ) w c.lc a k (cP l x)
 | [], k, x, u, r, he => by
   have he : some ((), ([] : List Lb), ([] : List (Nat × Nat))) = some (x, u, r) := he; injection he with he; injection he with _ e2; injection e2 with e2 e3; subst e2 e3; exact ⟨by simp, [], rfl, by simp, fun ρ _ _ i av hi => by simp [cP] at hi⟩
 | none :: l, k, x, u, r, he => by
   obtain ⟨g1, tb, g2, g3, g4⟩ := uT h l (k + 1) he; refine ⟨g1, tb, g2, g3, fun ρ hp hr i av hi => ?_⟩
   cases i with
   | zero => simp [cP] at hi
   | succ i =>
     have := g4 ρ hp hr i av (by simpa [cP] using hi)
     rwa [show k + 1 + i = k + (i + 1) by omega] at this
 | some p :: l, k, x, u, r, he => by
   unfold nk at he
   cases h1 : nk st (k + 1) l with
   | none => simp [h1] at he
   | some q1 =>
     obtain ⟨y, us, rs⟩ := q1; simp only [h1] at he
     cases h2 : yS st k p (aE l) (cz st k) y with
     | none => simp [h2] at he
     | some q2 =>
       obtain ⟨x1, u1, r1⟩ := q2; simp only [h2] at he; injection he with he; injection he with e1 e2; injection e2 with e2 e3; subst e1 e2 e3; obtain ⟨g1, tb, g2, g3, g4⟩ := uT h l (k + 1) h1; obtain ⟨a1, a2, ta, a3, a4, a5⟩ := xi h k (h.fp k) h2; refine ⟨fun l' hl => ?_, ta ++ tb, by simp [a3, g2], fun p hp => ?_, fun ρ hp hr i av hi => ?_⟩
       · rcases List.mem_append.1 hl with hl | hl
         · exact a2 l' hl
         · exact g1 l' hl
       · rcases List.mem_append.1 hp with hp | hp
         · exact a4 p hp
         · exact g3 p hp
       · cases i with
         | zero =>
           have hi : some (some (p.av (aE l) x1).1) = some (some av) := hi; simp only [Option.some.injEq] at hi; subst hi; exact a5 ρ (fun p m9 => hp p (List.mem_append_left _ m9)) (fun p m9 => hr p (List.mem_append_left _ m9))
         | succ i =>
           have hi : (cP l (p.av (aE l) x1).2)[i]? = some (some av) := hi; rw [a1] at hi; have := g4 ρ (fun p m9 => hp p (List.mem_append_right _ m9)) (fun p m9 => hr p (List.mem_append_right _ m9)) i av hi
           rwa [show k + 1 + i = k + (i + 1) by omega] at this
end Go.TM
namespace Go.TM
open Go Go.RowKit
def Kt (L : List (Option AV)) (lc : Nat → Nat → Loc) (a : Act) : Hv → Prop
 | .arr i j g W n l => g = 1 ∧ i < L.length ∧ ∀ av, L[i]? = some (some av) → (∃ A, av = .io A ∧ (j = 0 → A.r.width = W ∧ A.xs.length = n ∧ lc i 0 = l)) ∨ ∃ os, av = .bQ os ∧ ∀ A, os[j]? = some (.own A) → A.r.width = W ∧ A.xs.length = n ∧ lc i j = l
 | .box i g od => g = 1 ∧ i < L.length ∧ ∀ os, L[i]? = some (some (.box os)) → a.eval (.tmp i) = .pointer (some ⟨od, 0, none⟩)
def Ku : Lb → Lb
 | .cI i j => .sp i j
 | .su i => .box i
 | l => l
structure Kv (c : Cz) (w : World) (k : Nat) (av : Option AV) (u : Value) (lio : Nat → Loc) (od : Nat) (lcs : Nat → Loc) : Prop where
 arr : ∀ j A, nth (dm k av).aP j = some (some A) → ∃ v, OwnAt c w (.cI k j) (lcs j) A v
 reg : ∀ (c2 : Cz) (hM : St), (∀ b, c.ok b → c2.ok b) → c2.bx k = od → c2.lc k = lcs → nth hM k = some (dm k av) → eF c2 hM w (dm k av).v u
 box : ∀ cs, (dm k av).box = some cs → u = .pointer (some ⟨od, 0, none⟩) ∧ c.own od = some (.su k) ∧ ∃ vs ty, w.heap[od]? = some (.cells vs ty (0, 0)) ∧
   ∀ (c2 : Cz) (hM : St), (∀ b, c.ok b → c2.ok b) → c2.lc k = lcs → nth hM k = some (dm k av) → fo c2 hM w cs vs.toList
 io : ∀ A, av = some (.io A) → lcs 0 = lio 0
 bQ : ∀ os, av = some (.bQ os) → lcs = lio
theorem qz {st : St} {k j : Nat} {av : Option AV} {A : ig} (h : nth st k = some (dm k av)) (hA : bd st k j 1 = some A) : nth (dm k av).aP j = some (some A) := by
 obtain ⟨sl, h1, _, h3⟩ := bA hA; rw [h] at h1; cases h1; exact h3
theorem qA {st : St} {k : Nat} {av : Option AV} (h : nth st k = some (dm k av)) : dv st k = 1 := by
 unfold dv; rw [h]
 cases av with
 | none => rfl
 | some av => cases av with
   | val agg os => cases agg <;> rfl
   | io A => rfl
   | box os => rfl
   | bQ os => rfl
theorem B4 {st : St} {k : Nat} {av : Option AV} (h : nth st k = some (dm k av)) : gD st k = 1 := by
 unfold gD; rw [h]
 cases av with
 | none => rfl
 | some av => cases av with
   | val agg os => cases agg <;> rfl
   | io A => rfl
   | box os => rfl
   | bQ os => rfl
theorem xj : (os : List OV) → (j : Nat) → {A : ig} → nth (bq os) j = some (some A) → os[j]? = some (.own A)
 | [], _, _, h => by simp [bq] at h
 | o :: os, 0, A, h => by
   simp only [bq, nth, Option.some.injEq] at h
   cases o with
   | own B => injection h with h; subst h; rfl
   | _ => cases h
 | o :: os, j + 1, A, h => by
   have := xj os j (A := A) h; simpa using this
theorem B5 {d g : Nat} : (os : List OV) → (j k : Nat) → (o : OV) → os[k]? = some o → ∃ x, bm d g (j + k) [o] = [x] ∧ (bm d g j os)[k]? = some x
 | [], _, _, _, h => by simp at h
 | o :: os, j, 0, o', h => by
   simp only [List.getElem?_cons_zero, Option.some.injEq] at h; subst h
   cases o <;> exact ⟨_, rfl, rfl⟩
 | o :: os, j, k + 1, o', h => by
   obtain ⟨x, h1, h2⟩ := B5 (d := d) (g := g) os (j + 1) k o' (by simpa using h); rw [show j + 1 + k = j + (k + 1) by omega] at h1; refine ⟨x, h1, ?_⟩
   cases o <;> simpa [bm] using h2
theorem Ax {d g : Nat} : (os : List OV) → (j : Nat) → (bm d g j os).length = os.length
 | [], _ => rfl
 | o :: os, j => by cases o <;> simp [bm, Ax os (j + 1)]
theorem bI.Kw {c : Cz} {w : World} {f : Nat → Lb} {os : List OV} {vs : List Value} (h : bI c w f 0 os vs) (lcs : Nat → Loc) (ho : ∀ k A u, os[k]? = some (.own A) → vs[k]? = some u → ∃ l, OwnAt c w l (lcs k) A u)
   (c2 : Cz) (hM : St) (d g : Nat) (gJ : ∀ b, c.ok b → c2.ok b) (iA : ∀ k, c2.lc d k = lcs k) (xU : ∀ k A, bd hM d k g = some A → os[k]? = some (.own A)) (hg : g ≤ dv hM d) : fo c2 hM w (bm d g 0 os) vs := by
 obtain ⟨h1, h2⟩ := bI.Ks os 0 vs h; refine ⟨by rw [Ax, h1], fun k x v hx hv => ?_⟩; have dC : k < os.length := by rw [← h1]; exact (List.getElem?_eq_some_iff.1 hv).1
 have FM : os[k]? = some os[k] := List.getElem?_eq_getElem dC; obtain ⟨y, q1, q2⟩ := B5 (d := d) (g := g) os 0 k _ FM; rw [q2] at hx
 cases hx
 have hL := h2 k _ v FM hv; rw [Nat.zero_add] at q1; generalize os[k] = o at *
 cases o with
 | own A =>
   simp only [bm, List.cons.injEq, and_true] at q1; subst q1; obtain ⟨l, hO⟩ := ho k A v FM hv; refine ⟨hO.1, hg, fun A' ew => ?_⟩; have := xU k A' ew; rw [FM] at this
   cases this
   rw [iA]; exact hO.2.1
 | shr r xs =>
   simp only [bm, List.cons.injEq, and_true] at q1; subst q1; obtain ⟨v', l, e, h3, _⟩ := hL
   cases e
   exact cr.stays ⟨Nat.le_refl _, fun _ _ _ => rfl, fun b _ hb => gJ b hb⟩ _ _ _ h3
 | k9 r xs =>
   simp only [bm, List.cons.injEq, and_true] at q1; subst q1; obtain ⟨v', l, e, ⟨b, oo, e1, e2, e3, e4⟩, _⟩ := hL
   cases e
   exact ⟨b, oo, e1, e2, gJ b e3, fun x hx => dt.stays ⟨Nat.le_refl _, fun _ _ _ => rfl, fun b _ hb => gJ b hb⟩ _ _ _ _ rfl (e4 x hx)⟩
 | fn fg r xs =>
   simp only [bm, List.cons.injEq, and_true] at q1; subst q1; obtain ⟨v', l, e, h3, _⟩ := hL
   cases e
   exact h3.stays ⟨Nat.le_refl _, fun _ _ _ => rfl, fun b _ hb => gJ b hb⟩
 | _ =>
   simp only [bm, List.cons.injEq, and_true] at q1; subst q1; obtain ⟨l, e, _⟩ := hL
   cases e
   rfl
theorem Mr {c : Cz} {w : World} {k : Nat} {lio : Nat → Loc} {av : Option AV} {u : Value} (h : ∀ v, av = some v → ru c w k lio v u) : ∃ od lcs, Kv c w k av u lio od lcs := by
 cases av with
 | none => exact ⟨0, fun _ => .nil, fun j A hA => by simp [dm, Sl.blank] at hA, fun c2 hM _ _ _ _ => trivial, fun cs uB => by simp [dm, Sl.blank] at uB, fun A hA => (by cases hA), fun A hA => (by cases hA)⟩
 | some av =>
   have h := h av rfl
   cases av with
   | val agg os =>
     cases agg with
     | true =>
       obtain ⟨vs, rfl, hl⟩ := h; obtain ⟨lcs, g1, g2⟩ := bI.cells os 0 _ hl; simp only [Nat.zero_add] at g1 g2; refine ⟨0, lcs, fun j A hA => g1 j A hA, fun c2 hM gJ _ iA hn => ⟨vs, rfl, ?_⟩, fun cs uB => by simp [dm] at uB, fun A hA => (by cases hA), fun A hA => (by cases hA)⟩; exact g2 c2 hM k 1 gJ (fun j _ => by rw [iA]) (fun j A _ hA => qz hn hA) (by rw [qA hn]; exact Nat.le_refl _)
     | false =>
       have hl : bI c w (.cI k) 0 os [u] := h; obtain ⟨lcs, g1, g2⟩ := bI.cells os 0 _ hl; simp only [Nat.zero_add] at g1 g2; refine ⟨0, lcs, fun j A hA => g1 j A hA, fun c2 hM gJ _ iA hn => ?_, fun cs uB => by simp [dm] at uB, fun A hA => (by cases hA), fun A hA => (by cases hA)⟩; have hR := g2 c2 hM k 1 gJ (fun j _ => by rw [iA]) (fun j A _ hA => qz hn hA) (by rw [qA hn]; exact Nat.le_refl _); show eF c2 hM w (match bm k 1 0 os with | [c] => .one c | _ => .one .bad) u; have h1 := hR.1
       cases hc : bm k 1 0 os with
       | nil => trivial
       | cons x l => cases l with
         | nil => rw [hc] at hR; exact hR.2 0 x u rfl rfl
         | cons _ _ => trivial
   | io A =>
     have hO : OwnAt c w (.cI k 0) (lio 0) A u := h; refine ⟨0, lio, fun j A' ew => ?_, fun c2 hM gJ _ iA hn => ?_, fun cs uB => by simp [dm] at uB, fun A hA => rfl, fun A hA => by cases hA⟩
     · cases j with
       | zero => simp [dm, nth] at ew; subst ew; exact ⟨u, hO⟩
       | succ j => simp [dm, nth] at ew
     · refine ⟨hO.1, by rw [qA hn]; exact Nat.le_refl _, fun A' ew => ?_⟩; have := qz hn ew; simp [dm, nth] at this; subst this; rw [iA]; exact hO.2.1
   | bQ os =>
     obtain ⟨vs, rfl, hl, Ki⟩ := h; have gG : ∀ j A u, os[j]? = some (.own A) → vs.toList[j]? = some u → OwnAt c w (.cI k j) (lio j) A u := fun j A u h1 h2 => Ki j _ u h1 h2
     obtain ⟨n1, _⟩ := bI.Ks os 0 _ hl; refine ⟨0, lio, fun j A' ew => ?_, fun c2 hM gJ _ iA hn => ⟨vs, rfl, ?_⟩, fun cs uB => by simp [dm] at uB, fun A hA => (by cases hA), fun w6 _ => rfl⟩
     · have hj := xj os j ew; have dC : j < vs.toList.length := by rw [n1]; exact (List.getElem?_eq_some_iff.1 hj).1
       exact ⟨_, gG j A' _ hj (List.getElem?_eq_getElem dC)⟩
     · exact bI.Kw hl lio (fun j A u h1 h2 => ⟨_, gG j A u h1 h2⟩) c2 hM k 1 gJ (fun j => by rw [iA]) (fun j A hA => xj os j (qz hn hA)) (by rw [qA hn]; exact Nat.le_refl _)
   | box os =>
     obtain ⟨od, vs, ty, h1, h2, h3, hl⟩ := h; obtain ⟨lcs, g1, g2⟩ := bI.cells os 0 _ hl; simp only [Nat.zero_add] at g1 g2; refine ⟨od, lcs, fun j A hA => g1 j A hA, fun c2 hM gJ zj iA hn => ⟨by rw [h1]; rfl, by rw [B4 hn]; exact Nat.le_refl _, fun cs _ => by rw [zj]; exact h1⟩, fun cs uB => ⟨h1, h2, vs, ty, h3, fun c2 hM gJ iA hn => ?_⟩, fun A hA => (by cases hA), fun A hA => (by cases hA)⟩; simp only [dm, Option.some.injEq] at uB; subst uB; exact g2 c2 hM k 1 gJ (fun j _ => by rw [iA]) (fun j A _ hA => qz hn hA) (by rw [qA hn]; exact Nat.le_refl _)
theorem Rel.G5 {w0 : World} {mu : Mu} {c : Cz} {a : Act} {w : World} {L : List (Option AV)} {lc : Nat → Nat → Loc} (hb : HP w0 mu c w) (hd : a.defers = []) (hL : xZ c w lc a 0 L) (hA : ∀ p ∈ mu.an, Kt L lc a p) : ∃ c', Rel w0 mu c' (oe 0 L) a w := by
 have Td : ∀ k, ∃ q : Nat × (Nat → Loc), Kv c w k ((L[k]?).getD none) (a.eval (.tmp k)) (lc k) q.1 q.2 := by
   intro k; obtain ⟨od, lcs, h⟩ := Mr (c := c) (w := w) (k := k) (lio := lc k) (av := (L[k]?).getD none) (u := a.eval (.tmp k)) (fun v hv => by
     have := hL k v (by
       cases hq : L[k]? with
       | none => rw [hq] at hv; cases hv
       | some o => rw [hq] at hv; simp at hv; rw [hv])
     simpa using this)
   exact ⟨(od, lcs), h⟩
 obtain ⟨q, hq⟩ := Classical.axiomOfChoice Td; have hn : ∀ k, nth (oe 0 L) k = (L[k]?).map (dm k) := fun k => by have := BZ L 0 k; simpa using this
 have HE : ∀ k sl, nth (oe 0 L) k = some sl → ∃ o, L[k]? = some o ∧ sl = dm k o ∧ nth (oe 0 L) k = some (dm k ((L[k]?).getD none)) ∧ (L[k]?).getD none = o := by
   intro k sl h; rw [hn] at h
   cases ho : L[k]? with
   | none => rw [ho] at h; cases h
   | some o =>
     rw [ho] at h
     cases h
     refine ⟨o, rfl, rfl, ?_, rfl⟩; rw [hn, ho]; rfl
 let c' := c.et Ku (fun k => (q k).1) (fun k => (q k).2)
 have gJ : ∀ b, c.ok b → c'.ok b := fun b hb => Cz.pg.2 hb
 refine ⟨c', fun t => ?_, fun s sl cs hs zj => ?_, fun s j sl A hs ew => ?_, fun b l hl => ?_, fun b dC hl => hb.free b dC (by simpa [c', Cz.et] using hl), hb.kept, hb.old, hd, fun p hp => ?_⟩
 · cases hs : nth (oe 0 L) t with
   | none =>
     have : cz (oe 0 L) t = .one .bad := by unfold cz; rw [hs]
     rw [this]; trivial
   | some sl =>
     obtain ⟨o, h1, rfl, h3, h4⟩ := HE t sl hs; have : cz (oe 0 L) t = (dm t ((L[t]?).getD none)).v := by unfold cz; rw [h3]
     rw [this]; exact (hq t).reg c' (oe 0 L) gJ rfl rfl h3
 · obtain ⟨o, h1, rfl, h3, h4⟩ := HE s sl hs; rw [← h4] at zj; obtain ⟨g1, g2, vs, ty, g3, g4⟩ := (hq s).box cs zj; refine ⟨?_, vs, ty, g3, g4 c' (oe 0 L) gJ rfl h3⟩; show (c.own (q s).1).map Ku = _; rw [g2]; rfl
 · obtain ⟨o, h1, rfl, h3, h4⟩ := HE s sl hs; rw [← h4] at ew; obtain ⟨v, hv⟩ := (hq s).arr j A ew; exact hv.arr rfl rfl
 · simp only [c', Cz.et, Option.map_eq_some_iff] at hl; obtain ⟨k, hk, e⟩ := hl; obtain ⟨h1, h2⟩ := hb.owned b k hk; refine ⟨h1, h2.imp (fun e2 => ?_) id⟩; subst e2; rw [← e]; rfl
 · have hf := hA p hp
   cases p with
   | arr i j g W n l =>
     obtain ⟨rfl, hi, Eg⟩ := hf; have hs : nth (oe 0 L) i = some (dm i ((L[i]?).getD none)) := by rw [hn]; simp [List.getElem?_eq_getElem hi]
     refine ⟨by rw [qA hs]; exact Nat.le_refl _, fun A ew => ?_⟩; have h3 := qz hs ew
     cases ho : L[i]? with
     | none => rw [ho] at h3; simp [dm, Sl.blank] at h3
     | some o => cases o with
       | none => rw [ho] at h3; simp [dm, Sl.blank] at h3
       | some av =>
         rcases Eg av ho with ⟨A0, rfl, h5⟩ | ⟨os, rfl, h5⟩
         case inr =>
           rw [ho] at h3; obtain ⟨e1, e2, e3⟩ := h5 A (xj os j h3); refine ⟨e1, e2, ?_⟩; rw [← e3]; have := (hq i).bQ os (by rw [ho]; rfl); show (q i).2 j = lc i j; rw [this]
         rw [ho] at h3
         cases j with
         | zero =>
           simp [dm, nth] at h3; subst h3; obtain ⟨e1, e2, e3⟩ := h5 rfl; exact ⟨e1, e2, ((hq i).io A0 (by rw [ho]; rfl)).trans e3⟩
         | succ j => simp [dm, nth] at h3
   | box i g od =>
     obtain ⟨rfl, hi, Eg⟩ := hf; have hs : nth (oe 0 L) i = some (dm i ((L[i]?).getD none)) := by rw [hn]; simp [List.getElem?_eq_getElem hi]
     refine ⟨by rw [B4 hs]; exact Nat.le_refl _, fun cs uB => ?_⟩; obtain ⟨sl, k1, k2, k3⟩ := il uB; rw [hs] at k1; cases k1; obtain ⟨g1, _⟩ := (hq i).box cs k3; have rQ : ∃ os, L[i]? = some (some (.box os)) := by
       cases ho : L[i]? with
       | none => rw [ho] at k3; simp [dm, Sl.blank] at k3
       | some o => cases o with
         | none => rw [ho] at k3; simp [dm, Sl.blank] at k3
         | some av => cases av with
           | val agg os => rw [ho] at k3; cases agg <;> simp [dm] at k3
           | io A => rw [ho] at k3; simp [dm] at k3
           | bQ os => rw [ho] at k3; simp [dm] at k3
           | box os => exact ⟨os, rfl⟩
     obtain ⟨os, rQ⟩ := rQ; have := Eg os rQ; rw [this] at g1; injection g1 with g1; injection g1 with g1; injection g1 with g1; exact g1.symm
end Go.TM
namespace Go.TM
open Go Go.RowKit
inductive Src where
 | tmp (t : Nat)
 | cell (t : Nat)
 | ptr (t : Nat)  -- Fk struct behind a pointer, ac5 is j9 back
structure RP where
 src : Src
 agg : Bool
 ps : List OP
def dn : List RP → RT → RT
 | [], t => t
 | r :: rs, t => mQ r.ps (dn rs t)
def qP : List OP → RT → RT
 | [], t => t
 | .own r _ :: ps, t => .cons (.sl r) (qP ps t)
 | .int _ :: ps, t => qP ps t
 | .bool :: ps, t => qP ps t
 | .str :: ps, t => qP ps t
 | .shr _ :: ps, t => qP ps t
 | .k9 _ :: ps, t => qP ps t
 | .fn _ _ :: ps, t => qP ps t
def cq : List AP → RT
 | [] => .nil
 | .val _ _ :: l => cq l
 | .io r _ :: l => .cons (.sl r) (cq l)
 | .box _ ps :: l => mQ ps (cq l)
 | .bQ ps :: l => qP ps (cq l)
def RP.cells (st : St) (r : RP) : Option (List CV) :=
 match r.src with
 | .tmp t => match cz st t with
   | .agg cs => bif r.agg then some cs else none
   | .one c => bif r.agg then none else some [c]
   | .nb _ => none
 | .cell t => match cz st t with
   | .one (.ptr b g off) => bif Nat.beq off 0 then dE st b g else none
   | _ => none
 | .ptr t => match cz st t with
   | .one (.ptr b g off) => bif Nat.beq off 0 then dE st b g else none
   | _ => none
def RP.RF (st : St) (r : RP) : List (Option Lb) :=
 match r.src with
 | .ptr t => (match cz st t with | .one (.ptr b _ _) => [some (.box b)] | _ => [])
 | _ => []
def Ay (st : St) : (rs : List RP) → (t : RT) → ar t → Option (ar (dn rs t) × List (Option Lb) × List (Nat × Nat))
 | [], _, y => some (y, [], [])
 | r :: rs, t, y => (r.cells st).bind fun cs => (Ay st rs t y).bind fun q => (kG st r.ps (dn rs t) cs q.1).map fun p => (p.1, r.RF st ++ (p.2.1 ++ q.2.1), p.2.2 ++ q.2.2)
def lW (st : St) (i : Nat) : (j : Nat) → (ps : List OP) → (t : RT) → ar t → Option (ar (qP ps t) × List Lb)
 | _, [], _, y => some (y, [])
 | j, .own r d :: ps, t, y => (lW st i (j + 1) ps t y).bind fun q => (bd st i j 1).bind fun A => bif A.own && A.md.is d then (cm r A.xs).map fun xs => ((xs, q.1), .sp i j :: q.2) else none
 | j, .int _ :: ps, t, y => lW st i (j + 1) ps t y
 | j, .bool :: ps, t, y => lW st i (j + 1) ps t y
 | j, .str :: ps, t, y => lW st i (j + 1) ps t y
 | j, .shr _ :: ps, t, y => lW st i (j + 1) ps t y
 | j, .k9 _ :: ps, t, y => lW st i (j + 1) ps t y
 | j, .fn _ _ :: ps, t, y => lW st i (j + 1) ps t y
def rU (st : St) : (i : Nat) → (ps : List AP) → Option (ar (cq ps) × List Lb × List (Nat × Nat))
 | _, [] => some ((), [], [])
 | i, .val _ _ :: l => rU st (i + 1) l
 | i, .io r d :: l => (rU st (i + 1) l).bind fun q => (yS st i (.io r d) (cq l) (.one (.ref i 0 1 .full)) q.1).map fun p => (p.1, p.2.1 ++ q.2.1, p.2.2 ++ q.2.2)
 | i, .box _ ps :: l => (rU st (i + 1) l).bind fun q => (yS st i (.box true ps) (cq l) (.one (.ptr i 1 0)) q.1).map fun p => (p.1, p.2.1 ++ q.2.1, p.2.2 ++ q.2.2)
 | i, .bQ ps :: l => (rU st (i + 1) l).bind fun q => (lW st i 0 ps (cq l) q.1).map fun p => (p.1, p.2 ++ q.2.1, q.2.2)
def FR (rs : List RP) (ps : List AP) : Ex → St → Option (ar (dn rs (cq ps)))
 | .exit _, _ => none
 | _, st => (rU st 0 ps).bind fun x => (Ay st rs (cq ps) x.1).bind fun q => bif s4 (cn q.2.1 ++ x.2.1) && apart (cn q.2.1 ++ x.2.1) (q.2.2 ++ x.2.2) then some q.1 else none
def RP.rv (r : RP) (os : List OV) : RV :=
 match r.src with
 | .ptr _ => .ptr os
 | _ => match r.agg, os with
   | false, [o] => .one o
   | _, os => .agg os
def iP : (rs : List RP) → (t : RT) → ar (dn rs t) → List RV × ar t
 | [], _, x => ([], x)
 | r :: rs, t, x => (r.rv (dG r.ps (dn rs t) x).1 :: (iP rs t (dG r.ps (dn rs t) x).2).1, (iP rs t (dG r.ps (dn rs t) x).2).2)
def mR : (ps : List OP) → (t : RT) → ar (qP ps t) → List (Option ig) × ar t
 | [], _, x => ([], x)
 | .own r d :: ps, t, x => (some { r := r, own := true, xs := x.1, md := d } :: (mR ps t x.2).1, (mR ps t x.2).2)
 | .int _ :: ps, t, x => (none :: (mR ps t x).1, (mR ps t x).2)
 | .bool :: ps, t, x => (none :: (mR ps t x).1, (mR ps t x).2)
 | .str :: ps, t, x => (none :: (mR ps t x).1, (mR ps t x).2)
 | .shr _ :: ps, t, x => (none :: (mR ps t x).1, (mR ps t x).2)
 | .k9 _ :: ps, t, x => (none :: (mR ps t x).1, (mR ps t x).2)
 | .fn _ _ :: ps, t, x => (none :: (mR ps t x).1, (mR ps t x).2)
def oN : (ps : List AP) → ar (cq ps) → List XV
 | [], _ => []
 | .val _ _ :: l, x => oN l x
 | .io r d :: l, x => .io { r := r, own := true, xs := x.1, md := d } :: oN l x.2
 | .box _ ps :: l, x => .box (dG ps (cq l) x).1 :: oN l (dG ps (cq l) x).2
 | .bQ ps :: l, x => .bQ (mR ps (cq l) x).1 :: oN l (mR ps (cq l) x).2
def sI (ps : List AP) (rs : List RP) (t : ar (aE (ps.map some)) → Option (ar (dn rs (cq ps)))) : vW := fun eA =>
 match hY ps eA with
 | some x => some { r := dn rs (cq ps), o := t x, res := fun y => { outs := (iP rs (cq ps) y).1, exts := oN ps (iP rs (cq ps) y).2 } }
 | none => none
theorem jA {st : St} {i : Nat} : (ps : List OP) → (j : Nat) → (t : RT) → (y : ar t) → {x : ar (qP ps t)} → {u : List Lb} → lW st i j ps t y = some (x, u) → (mR ps t x).2 = y ∧ (∀ l ∈ u, ∃ k, l = .sp i k) ∧
   ∀ (k : Nat) (r : RT) (d : Md), ps[k]? = some (.own r d) → ∃ A xs, bd st i (j + k) 1 = some A ∧ A.own = true ∧ A.md = d ∧ cm r A.xs = some xs ∧ nth (mR ps t x).1 k = some (some { r := r, own := true, xs := xs, md := d }) ∧ .sp i (j + k) ∈ u
 | [], j, t, y, x, u, h => by
   injection h with h; injection h with e1 e2; subst e1 e2; exact ⟨rfl, by simp, fun k r d hk => by simp at hk⟩
 | .own r d :: ps, j, t, y, x, u, h => by
   unfold lW at h; obtain ⟨q, hq, h⟩ := Option.bind_eq_some_iff.1 h; obtain ⟨A, hA, h⟩ := Option.bind_eq_some_iff.1 h; obtain ⟨ho, h⟩ := aI h; rw [Bool.and_eq_true] at ho; obtain ⟨xs, Nq, h⟩ := Option.map_eq_some_iff.1 h; injection h with e1 e2; subst e1 e2; obtain ⟨z, us⟩ := q; obtain ⟨g1, g2, g3⟩ := jA ps (j + 1) t y hq; refine ⟨g1, fun l hl => ?_, fun k r' d' hk => ?_⟩
   · rcases List.mem_cons.1 hl with rfl | hl
     · exact ⟨j, rfl⟩
     · exact g2 l hl
   · cases k with
     | zero =>
       simp only [List.getElem?_cons_zero, Option.some.injEq, OP.own.injEq] at hk; obtain ⟨rfl, rfl⟩ := hk; exact ⟨A, xs, hA, ho.1, Md.oB.1 ho.2, Nq, rfl, List.mem_cons_self⟩
     | succ k =>
       obtain ⟨A', SC, k1, k2, kd, k3, k4, k5⟩ := g3 k r' d' (by simpa using hk); rw [show j + 1 + k = j + (k + 1) by omega] at k1 k5; exact ⟨A', SC, k1, k2, kd, k3, k4, List.mem_cons_of_mem _ k5⟩
 | .int _ :: ps, j, t, y, x, u, h => jZ (jA ps (j + 1) t y h) (by simp) (fun k => rfl)
 | .bool :: ps, j, t, y, x, u, h => jZ (jA ps (j + 1) t y h) (by simp) (fun k => rfl)
 | .str :: ps, j, t, y, x, u, h => jZ (jA ps (j + 1) t y h) (by simp) (fun k => rfl)
 | .shr _ :: ps, j, t, y, x, u, h => jZ (jA ps (j + 1) t y h) (by simp) (fun k => rfl)
 | .k9 _ :: ps, j, t, y, x, u, h => jZ (jA ps (j + 1) t y h) (by simp) (fun k => rfl)
 | .fn _ _ :: ps, j, t, y, x, u, h => jZ (jA ps (j + 1) t y h) (by simp) (fun k => rfl)
where
 jZ {st : St} {i j : Nat} {p : OP} {ps : List OP} {D : Type} {y z : D} {L L' : List (Option ig)} {u : List Lb} (h : z = y ∧ (∀ l ∈ u, ∃ k, l = .sp i k) ∧ ∀ (k : Nat) (r : RT) (d : Md), ps[k]? = some (.own r d) → ∃ A xs, bd st i (j + 1 + k) 1 = some A ∧ A.own = true ∧ A.md = d ∧ cm r A.xs = some xs ∧ nth L k = some (some { r := r, own := true, xs := xs, md := d }) ∧ .sp i (j + 1 + k) ∈ u)
     (hp : ∀ r d, p ≠ .own r d) (hL : ∀ k, nth L' (k + 1) = nth L k) : z = y ∧ (∀ l ∈ u, ∃ k, l = .sp i k) ∧ ∀ (k : Nat) (r : RT) (d : Md), (p :: ps)[k]? = some (.own r d) → ∃ A xs, bd st i (j + k) 1 = some A ∧ A.own = true ∧ A.md = d ∧ cm r A.xs = some xs ∧ nth L' k = some (some { r := r, own := true, xs := xs, md := d }) ∧ .sp i (j + k) ∈ u := by
   obtain ⟨h1, h2, h3⟩ := h; refine ⟨h1, h2, fun k r d hk => ?_⟩
   cases k with
   | zero =>
     simp only [List.getElem?_cons_zero, Option.some.injEq] at hk; exact absurd hk (hp r d)
   | succ k =>
     obtain ⟨A', SC, k1, k2, kd, k3, k4, k5⟩ := h3 k r d (by simpa using hk); rw [show j + 1 + k = j + (k + 1) by omega] at k1 k5; exact ⟨A', SC, k1, k2, kd, k3, by rw [hL]; exact k4, k5⟩
theorem B6 {st : St} : (ps : List OP) → (t : RT) → (cs : List CV) → (y : ar t) → {x : ar (mQ ps t)} → {u : List (Option Lb)} → {r : List (Nat × Nat)} → kG st ps t cs y = some (x, u, r) → u.length = ps.length ∧ cs.length = ps.length ∧ (dG ps t x).1.length = ps.length
 | [], t, [], y, x, u, r, h => by
   injection h with h; injection h with e1 e2; injection e2 with e2 e3; subst e1 e2 e3; exact ⟨rfl, rfl, rfl⟩
 | [], t, _ :: _, y, x, u, r, h => by simp [kG] at h
 | _ :: _, t, [], y, x, u, r, h => by simp [kG] at h
 | p :: ps, t, c :: cs, y, x, u, r, h => by
   unfold kG at h
   cases hc : gk st p.ob c with
   | none => simp [hc] at h
   | some q1 =>
     obtain ⟨o, u1, r1⟩ := q1
     cases hq : kG st ps t cs y with
     | none => simp [hc, hq] at h
     | some q2 =>
       obtain ⟨z, us, rs⟩ := q2; simp only [hc, hq] at h
       cases ho : tY p o with
       | none => simp [ho] at h
       | some a1 =>
         simp only [ho] at h; injection h with h; injection h with e1 e2; injection e2 with e2 e3; subst e1 e2 e3; obtain ⟨g1, g2, g3⟩ := B6 ps t cs y hq; exact ⟨by simp [g1], by simp [g2], by simp [dG, g3]⟩
def Kx (T : la) (fr : Array Value) : ResultVar → RP → Prop
 | .tmp t, r => r.src = .tmp t ∨ r.src = .ptr t
 | .cell t ty, r => r.src = .cell t ∧ T.cells ty = some r.ps.length ∧ T.agg ty = r.agg
def Az (tm : Array Value) : ResultVar → Sem Value
 | .tmp t => pure (tm.getD t undef)
 | .cell a t => do loadVar t (← asAddr (tm.getD a undef))
theorem RP.Ky {P : Program} {T : la} (hT : gq P T) {w0 : World} {mu : Mu} {c : Cz} {st : St} {a : Act} {w : World} (h : Rel w0 mu c st a w) {r : RP} {rv : ResultVar} (hr : Kx T a.tmps rv r) {cs : List CV} (hc : r.cells st = some cs) (hn : cs.length = r.ps.length) :
   ∃ vs v, fo c st w cs vs ∧ (Az a.tmps rv).run P w = .ok v w ∧ (((∀ t, r.src ≠ .ptr t) ∧ ((r.agg = true ∧ v = .agg vs.toArray) ∨ (r.agg = false ∧ (vs = [v])))) ∨
     (∃ t b ty us, r.src = .ptr t ∧ r.RF st = [some (.box b)] ∧ v = .pointer (some ⟨c.bx b, 0, none⟩) ∧ c.own (c.bx b) = some (.box b) ∧ w.heap[c.bx b]? = some (.cells us ty (0, 0)) ∧ vs = us.toList)) := by
 unfold RP.cells at hc
 cases rv with
 | tmp t =>
   rcases (hr : r.src = .tmp t ∨ r.src = .ptr t) with hs | hs
   case inr =>
     rw [hs] at hc; have sF := h.fp t; simp only at hc
     cases hv : cz st t with
     | nb _ => rw [hv] at hc; cases hc
     | agg l => rw [hv] at hc; cases hc
     | one x =>
       cases x with
       | ptr b g off =>
         rw [hv] at hc sF; obtain ⟨ho, hb⟩ := aI hc; have ho := Nat.eq_of_beq_eq_true ho; subst ho; obtain ⟨sl, k1, k2, k3⟩ := il hb; obtain ⟨q1, vs, ty', q2, q3⟩ := h.boxes b sl cs k1 k3; have e : a.tmps.getD t undef = .pointer (some ⟨c.bx b, 0, none⟩) := sF.2.2 cs hb; refine ⟨vs.toList, a.tmps.getD t undef, q3, rfl, .inr ⟨t, b, ty', vs, hs, ?_, e, q1, q2, rfl⟩⟩; unfold RP.RF; rw [hs]; simp only [hv]
       | _ => rw [hv] at hc; cases hc
   rw [hs] at hc; have sF := h.fp t; simp only at hc
   cases hv : cz st t with
   | nb _ => rw [hv] at hc; cases hc
   | agg l =>
     rw [hv] at hc sF; obtain ⟨G6, hc1⟩ := aI hc
     cases hc1
     obtain ⟨vs, e, hl⟩ := sF; exact ⟨vs.toList, a.eval (.tmp t), hl, rfl, .inl ⟨fun t' e' => (by rw [hs] at e'; cases e'), .inl ⟨G6, by rw [e]⟩⟩⟩
   | one x =>
     rw [hv] at hc sF; simp only at hc
     cases G6 : r.agg with
     | true => rw [G6] at hc; cases hc
     | false =>
       rw [G6] at hc
       cases hc
       refine ⟨[a.eval (.tmp t)], a.eval (.tmp t), ⟨rfl, fun i y z hy hz => ?_⟩, rfl, .inl ⟨fun t' e' => (by rw [hs] at e'; cases e'), .inr ⟨rfl, rfl⟩⟩⟩
       cases i with
       | zero => simp at hy hz; subst hy hz; exact sF
       | succ i => simp at hy
 | cell t ty =>
   obtain ⟨hs, h1, h2⟩ := hr; rw [hs] at hc; have sF := h.fp t; simp only at hc
   cases hv : cz st t with
   | nb _ => rw [hv] at hc; cases hc
   | agg l => rw [hv] at hc; cases hc
   | one x =>
     cases x with
     | ptr b g off =>
       rw [hv] at hc sF; obtain ⟨ho, hb⟩ := aI hc; have ho := Nat.eq_of_beq_eq_true ho; subst ho; obtain ⟨sl, k1, k2, k3⟩ := il hb; obtain ⟨q1, vs, ty', q2, q3⟩ := h.boxes b sl cs k1 k3; have e : a.tmps.getD t undef = .pointer (some ⟨c.bx b, 0, none⟩) := sF.2.2 cs hb; have Ot : w.rangeAt (c.bx b) 0 vs.toList := by
         have := yB (off := 0) q2 vs.toList.length
         rwa [List.drop_zero, List.take_length] at this
       have hlen : vs.toList.length = r.ps.length := by rw [← q3.1, hn]
       have rh := rk (P := P) hT h1 w (c.bx b) 0 vs.toList Ot hlen; refine ⟨vs.toList, valOf (T.agg ty) vs.toList, q3, ?_, .inl ⟨fun t' e' => (by rw [hs] at e'; cases e'), ?_⟩⟩
       · simp [Az, e, asAddr, Sem.run_bind, rh]
       · rw [h2]
         cases G6 : r.agg with
         | true => exact .inl ⟨rfl, by simp [valOf]⟩
         | false =>
           obtain ⟨_, _, _, Bn⟩ := hT.agg ty _ h1; have h3 := Bn (by rw [h2, G6]); refine .inr ⟨rfl, ?_⟩; have : vs.toList.length = 1 := by rw [hlen, h3]
           cases wT : vs.toList with
           | nil => rw [wT] at this; cases this
           | cons x l => cases l with
             | nil => rfl
             | cons _ _ => rw [wT] at this; simp at this
     | _ => rw [hv] at hc; cases hc
end Go.TM
namespace Go.TM
open Go Go.RowKit
def wj (T : la) (tm : Array Value) : List ResultVar → List RP → Prop
 | [], [] => True
 | v :: vs, r :: rs => Kx T tm v r ∧ wj T tm vs rs
 | _, _ => False
theorem B7 {P : Program} {T : la} (hT : gq P T) {w0 : World} {mu : Mu} {c : Cz} {st : St} {a : Act} {w : World} (h : Rel w0 mu c st a w) : (Tl : List ResultVar) → (rs : List RP) → wj T a.tmps Tl rs → (t : RT) → (y : ar t) → {x : ar (dn rs t)} → {u : List (Option Lb)} → {r : List (Nat × Nat)} → Ay st rs t y = some (x, u, r) →
   (iP rs t x).2 = y ∧ (iP rs t x).1.length = rs.length ∧ (∀ l ∈ cn u, l.real = true) ∧ ∃ vals : List Value, (Tl.mapM (Az a.tmps)).run P w = .ok vals w ∧ vals.length = Tl.length ∧
     ∀ (ρ : Lb → Option Lb) (j : Nat), (∀ k l, nth u k = some (some l) → ρ l = some (.jw (j + k))) → (∀ p ∈ r, ρ (.sp p.1 p.2) = none) → lE (c.map ρ) w j (iP rs t x).1 vals
 | [], [], _, t, y, x, u, r, he => by
   injection he with he; injection he with e1 e2; injection e2 with e2 e3; subst e1 e2 e3; exact ⟨rfl, rfl, by simp [cn], [], rfl, rfl, fun _ _ _ _ => rfl⟩
 | [], _ :: _, hf, _, _, _, _, _, _ => hf.elim
 | _ :: _, [], hf, _, _, _, _, _, _ => hf.elim
 | rv :: Tl, rr :: rs, hf, t, y, x, u, r, he => by
   unfold Ay at he; obtain ⟨cs, hc, he⟩ := Option.bind_eq_some_iff.1 he; obtain ⟨q, hq, he⟩ := Option.bind_eq_some_iff.1 he; obtain ⟨p, hp, he⟩ := Option.map_eq_some_iff.1 he; obtain ⟨x2, u2, r2⟩ := q; obtain ⟨x1, u1, r1⟩ := p; injection he with e1 e2; injection e2 with e2 e3; subst e1 e2 e3; obtain ⟨l1, l2, l3⟩ := B6 rr.ps _ cs _ hp; obtain ⟨vs, v, g1, g2, g3⟩ := RP.Ky hT h hf.1 hc l2; obtain ⟨k1, k2, k3, vals, k4, k5, k6⟩ := B7 hT h Tl rs hf.2 t y hq; have h0 := fun (ρ : Lb → Option Lb) (j : Nat) => uS h (ρ := ρ) (f := .jw) rr.ps (dn rs t) cs x2 vs j g1 hp
   have e0 := (h0 (fun _ => none) 0).1; refine ⟨?_, ?_, fun l hl => ?_, v :: vals, ?_, by simp [k5], fun ρ j hu hr => ?_⟩
   · show (iP rs t (dG rr.ps (dn rs t) x1).2).2 = y; rw [e0]; exact k1
   · show (iP rs t (dG rr.ps (dn rs t) x1).2).1.length + 1 = _; rw [e0, k2]; rfl
   · rw [gR] at hl; rcases List.mem_append.1 hl with hl | hl
     · unfold RP.RF at hl
       split at hl
       · split at hl
         · simp only [List.mem_singleton, Option.some.injEq] at hl; subst hl; rfl
         · cases hl
       · cases hl
     · rcases List.mem_append.1 hl with hl | hl
       · exact (h0 (fun _ => none) 0).2.1 l (gR.2 hl)
       · exact k3 l (gR.2 hl)
   · rw [List.mapM_cons]; simp [Sem.run_bind, g2, k4]
   · have e : (iP (rr :: rs) t x1).1 = rr.rv (dG rr.ps (dn rs t) x1).1 :: (iP rs t x2).1 := by
       show rr.rv (dG rr.ps (dn rs t) x1).1 :: (iP rs t (dG rr.ps (dn rs t) x1).2).1 = _; rw [e0]
     show lE (c.map ρ) w j (iP (rr :: rs) t x1).1 (v :: vals); rw [e]; rcases g3 with ⟨hnp, g3⟩ | ⟨tt, b, ty, us, Ou, Ov, hv, gG, Kb, wT⟩
     · have Ov : rr.RF st = [] := by
         unfold RP.RF
         split
         · rename_i t' e'; exact absurd e' (hnp t')
         · rfl
       rw [Ov, List.nil_append] at hu; have hL := (h0 ρ j).2.2 (fun k l hk => hu k l (by
         rw [mA, if_pos (CA hk)]; exact hk)) (fun p hp => hr p (List.mem_append_left _ hp))
       have eU := k6 ρ (j + rr.ps.length) (fun k l hk => by
         have := hu (rr.ps.length + k) l (by rw [mA, l1, if_neg (by omega), Nat.add_sub_cancel_left]; exact hk); rw [Nat.add_assoc]; exact this) (fun p hp => hr p (List.mem_append_right _ hp))
       have hrv : ∀ os, rr.rv os = (match rr.agg, os with | false, [o] => RV.one o | _, os => RV.agg os) := by
         intro os; unfold RP.rv
         split
         · rename_i t' e'; exact absurd e' (hnp t')
         · rfl
       rcases g3 with ⟨ha, rfl⟩ | ⟨ha, rfl⟩
       · have er : rr.rv (dG rr.ps (dn rs t) x1).1 = .agg (dG rr.ps (dn rs t) x1).1 := by rw [hrv, ha]
         rw [er]; exact ⟨vs.toArray, vals, rfl, by simpa using hL, by rw [l3]; exact eU⟩
       · have hlen : cs.length = 1 := g1.1; have : (dG rr.ps (dn rs t) x1).1.length = 1 := by rw [l3, ← l2, hlen]
         cases ho : (dG rr.ps (dn rs t) x1).1 with
         | nil => rw [ho] at this; cases this
         | cons o l => cases l with
           | cons _ _ => rw [ho] at this; simp at this
           | nil =>
             have er : rr.rv [o] = .one o := by rw [hrv, ha]
             rw [er]; rw [ho] at hL; refine ⟨v, vals, rfl, hL, ?_⟩; rw [← l2, hlen] at eU; exact eU
     · rw [Ov] at hu; have hb := hu 0 (.box b) rfl; have hL := (h0 ρ (j + 1)).2.2 (fun k l hk => by
         have := hu (k + 1) l (by
           show nth (u1 ++ u2) k = _; rw [mA, if_pos (CA hk)]; exact hk)
         rwa [show j + (k + 1) = j + 1 + k by omega] at this) (fun p hp => hr p (List.mem_append_left _ hp))
       have eU := k6 ρ (j + (rr.ps.length + 1)) (fun k l hk => by
         have := hu (rr.ps.length + k + 1) l (by
           show nth (u1 ++ u2) (rr.ps.length + k) = _; rw [mA, l1, if_neg (by omega), Nat.add_sub_cancel_left]; exact hk)
         rwa [show j + (rr.ps.length + k + 1) = j + (rr.ps.length + 1) + k by omega] at this) (fun p hp => hr p (List.mem_append_right _ hp))
       have er : rr.rv (dG rr.ps (dn rs t) x1).1 = .ptr (dG rr.ps (dn rs t) x1).1 := by unfold RP.rv; rw [Ou]
       rw [er]; subst wT; refine ⟨v, vals, rfl, ⟨c.bx b, us, ty, hv, ?_, Kb, hL⟩, by rw [l3]; exact eU⟩; rw [Nat.add_zero] at hb; exact (Cz.ku gG).trans hb
def CP (mu : Mu) (lc : Nat → Nat → Loc) (i : Nat) (ps : List AP) (eA : List AV) (vs : List Value) : Prop :=
 ∀ (k : Nat) (p : AP) (av : AV) (v : Value), ps[k]? = some p → eA[k]? = some av → vs[k]? = some v → match p, av with
   | .io _ _, .io A => v.oneCell' = true ∧ jx (lc (i + k) 0) A.r.width 0 A.xs.length v ∧ Hv.arr (i + k) 0 1 A.r.width A.xs.length (lc (i + k) 0) ∈ mu.an
   | .box _ _, .box _ => ∃ od, v = .pointer (some ⟨od, 0, none⟩) ∧ Hv.box (i + k) 1 od ∈ mu.an
   | .val _ _, .val _ _ => True
   | .bQ qs, .bQ os => ∃ us, v = .agg us ∧ ∀ j A, os[j]? = some (.own A) → (∃ r d, qs[j]? = some (.own r d)) ∧ ∃ u, us.toList[j]? = some u ∧ u.oneCell' = true ∧ jx (lc (i + k) j) A.r.width 0 A.xs.length u ∧ Hv.arr (i + k) j 1 A.r.width A.xs.length (lc (i + k) j) ∈ mu.an
   | _, _ => False
theorem sJ {w0 : World} {mu : Mu} {c : Cz} {st : St} {a : Act} {w : World} (h : Rel w0 mu c st a w) {lc : Nat → Nat → Loc} : (ps : List AP) → (i : Nat) → (eA : List AV) → (vs : List Value) → ps.length = eA.length → ps.length = vs.length → CP mu lc i ps eA vs → {x : ar (cq ps)} → {u : List Lb} → {r : List (Nat × Nat)} → rU st i ps = some (x, u, r) →
   (∀ l ∈ u, l.real = true) ∧ ∃ tb : List (Lb × Lb), tb.map (·.1) = u ∧ (∀ p ∈ tb, p.2.j9 = true) ∧ ∀ ρ : Lb → Option Lb, (∀ p ∈ tb, ρ p.1 = some p.2) → (∀ p ∈ r, ρ (.sp p.1 p.2) = none) → jO (c.map ρ) w lc i eA vs (oN ps x)
 | [], i, eA, vs, h1, h2, _, x, u, r, he => by
   injection he with he; injection he with e1 e2; injection e2 with e2 e3; subst e2 e3; have : eA = [] := by simpa using h1.symm
   subst this; exact ⟨by simp, [], rfl, by simp, fun _ _ _ => rfl⟩
 | p :: ps, i, [], vs, h1, _, _, _, _, _, _ => by simp at h1
 | p :: ps, i, _ :: _, [], _, h2, _, _, _, _, _ => by simp at h2
 | p :: ps, i, av :: eA, v :: vs, h1, h2, hl, x, u, r, he => by
   have um : CP mu lc (i + 1) ps eA vs := fun k p' G2 v' e1 e2 e3 => by
     have := hl (k + 1) p' G2 v' (by simpa using e1) (by simpa using e2) (by simpa using e3)
     rwa [show i + (k + 1) = i + 1 + k by omega] at this
   have N1 : ps.length = eA.length := by simpa using h1
   have Xq : ps.length = vs.length := by simpa using h2
   have h0 := hl 0 p av v rfl rfl rfl
   cases p with
   | val agg qs =>
     cases av with
     | val Mq os =>
       obtain ⟨g1, tb, g2, g3, g4⟩ := sJ h ps (i + 1) eA vs N1 Xq um he; exact ⟨g1, tb, g2, g3, fun ρ hp hr => g4 ρ hp hr⟩
     | io _ => exact h0.elim
     | box _ => exact h0.elim
     | bQ _ => exact h0.elim
   | io rr dd =>
     cases av with
     | val _ _ => exact h0.elim
     | box _ => exact h0.elim
     | bQ _ => exact h0.elim
     | io A =>
       obtain ⟨q1, q2, q3⟩ := h0; simp only [Nat.add_zero] at q2 q3; unfold rU at he; obtain ⟨q, hq, he⟩ := Option.bind_eq_some_iff.1 he; obtain ⟨p, hp, he⟩ := Option.map_eq_some_iff.1 he; obtain ⟨x2, u2, r2⟩ := q; obtain ⟨x1, u1, r1⟩ := p; injection he with e1 e2; injection e2 with e2 e3; subst e1 e2 e3; obtain ⟨g1, tb, g2, g3, g4⟩ := sJ h ps (i + 1) eA vs N1 Xq um hq; have Ms := h.ed _ q3; have hV : eF c st w (.one (.ref i 0 1 .full)) v := ⟨q1, Ms.1, fun A' ew => by
         obtain ⟨e1, e2, e3⟩ := Ms.2 A' ew; rw [e1, e3]; show jx (lc i 0) A.r.width 0 A'.xs.length v; rw [e2]; exact q2⟩
       obtain ⟨a1, a2, ta, a3, a4, a5⟩ := xi h i hV hp; obtain ⟨A', ew, Tm⟩ : ∃ A', bd st i 0 1 = some A' ∧ ∃ xs, cm rr A'.xs = some xs ∧ x1.1 = xs := by
         have hp : (bif Nat.beq i i && (Nat.beq 0 0 && Nat.beq 1 1) then ((bd st i 0 1).bind fun A => bif A.own && A.md.is dd then (cm rr A.xs).map fun xs => ((xs, x2), [Lb.sp i 0], ([] : List (Nat × Nat))) else none) else none) = some (x1, u1, r1) := hp; obtain ⟨_, hp1⟩ := aI hp; obtain ⟨A', ew, Yh⟩ := Option.bind_eq_some_iff.1 hp1; obtain ⟨_, hp3⟩ := aI Yh; obtain ⟨xs, Nq, e⟩ := Option.map_eq_some_iff.1 hp3; injection e with e _; exact ⟨A', ew, xs, Nq, by rw [← e]⟩
       obtain ⟨xs, Nq, ex⟩ := Tm; obtain ⟨e1, e2, e3⟩ := Ms.2 A' ew; refine ⟨fun l hl => ?_, ta ++ tb, by simp [a3, g2], fun p hp => ?_, fun ρ hp hr => ?_⟩
       · rcases List.mem_append.1 hl with hl | hl
         · exact a2 l hl
         · exact g1 l hl
       · rcases List.mem_append.1 hp with hp | hp
         · exact a4 p hp
         · exact g3 p hp
       · have RG := a5 ρ (fun p m9 => hp p (List.mem_append_left _ m9)) (fun p m9 => hr p (List.mem_append_left _ m9)); have eU := g4 ρ (fun p m9 => hp p (List.mem_append_right _ m9)) (fun p m9 => hr p (List.mem_append_right _ m9)); have RG : OwnAt (c.map ρ) w (.cI i 0) (c.lc i 0) { r := rr, own := true, xs := x1.1, md := dd } v := RG; rw [e3] at RG; obtain ⟨er, Jt⟩ := bD Nq; refine ⟨{ r := rr, own := true, xs := x1.1, md := dd }, oN ps x1.2, rfl, ?_, ?_, RG, ?_⟩
         · show rr.width = A.r.width; rw [← er]; exact e1
         · show List.length (x1.1 : List (ar rr)) = A.xs.length; rw [ex, Jt, ← e2]
           cases er
           rfl
         · have : x1.2 = x2 := a1; rw [this]; exact eU
   | bQ qs =>
     cases av with
     | val _ _ => exact h0.elim
     | io _ => exact h0.elim
     | box _ => exact h0.elim
     | bQ os =>
       obtain ⟨us, rfl, q1⟩ := h0; simp only [Nat.add_zero] at q1; unfold rU at he; obtain ⟨q, hq, he⟩ := Option.bind_eq_some_iff.1 he; obtain ⟨p, hp, he⟩ := Option.map_eq_some_iff.1 he; obtain ⟨x2, u2, r2⟩ := q; obtain ⟨x1, u1⟩ := p; injection he with e1 e2; injection e2 with e2 e3; subst e1 e2 e3; obtain ⟨g1, tb, g2, g3, g4⟩ := sJ h ps (i + 1) eA vs N1 Xq um hq; obtain ⟨a1, a2, a3⟩ := jA qs 0 (cq ps) x2 hp
       let f : Lb → Lb × Lb := fun l => (l, match l with | .sp x y => .cI x y | l => l)
       refine ⟨fun l hl => ?_, u1.map f ++ tb, ?_, fun p hp => ?_, fun ρ hp hr => ?_⟩
       · rcases List.mem_append.1 hl with hl | hl
         · obtain ⟨k, rfl⟩ := a2 l hl; rfl
         · exact g1 l hl
       · rw [List.map_append, List.map_map, g2]
         congr 1
         exact List.map_id u1
       · rcases List.mem_append.1 hp with hp | hp
         · obtain ⟨l, hl, rfl⟩ := List.mem_map.1 hp; obtain ⟨k, rfl⟩ := a2 l hl; rfl
         · exact g3 p hp
       · have eU := g4 ρ (fun p m9 => hp p (List.mem_append_right _ m9)) hr; refine ⟨(mR qs (cq ps) x1).1, oN ps (mR qs (cq ps) x1).2, rfl, ⟨us, rfl, fun j A hj => ?_⟩, by rw [a1]; exact eU⟩; obtain ⟨⟨r, dd, YJ⟩, u, b1, b2, b3, b4⟩ := q1 j A hj; obtain ⟨A', xs, c1, c2, cd, c3, c4, c5⟩ := a3 j r dd YJ; rw [Nat.zero_add] at c1 c5; obtain ⟨e1, e2, e3⟩ := (h.ed _ b4).2 A' c1; obtain ⟨er, Jt⟩ := bD c3; have ha := vt h c1; have hρ : ρ (.sp i j) = some (.cI i j) := hp (.sp i j, .cI i j) (List.mem_append_left _ (List.mem_map.2 ⟨_, c5, rfl⟩)); have hw : r.width = A.r.width := by rw [← er]; exact e1
         have hn : xs.length = A.xs.length := by
           rw [← e2, Jt]
           cases er
           rfl
         refine ⟨_, u, c4, b1, hw, hn, b2, ?_, rfl, ?_⟩
         · show jx (lc i j) r.width 0 xs.length u; rw [hw, hn]; exact b3
         · show match lc i j with
             | .nil => xs = []
             | .at b off cap => _
           obtain ⟨rA, afr, xsA, mdA⟩ := A'; simp only at er c2 cd; subst er c2 cd; have Jt : xs = xsA := Jt; subst Jt; unfold cu at ha; have e3 : c.lc i j = lc i j := e3; rw [e3] at ha
           cases iA : lc i j with
           | nil => rw [iA] at ha; exact ha
           | «at» b off cap =>
             rw [iA] at ha; obtain ⟨k0, k2, k3, k4⟩ := ha; exact ⟨(Cz.ku k0).trans hρ, k2, k3, k4.map hρ⟩
   | box Cu qs =>
     cases av with
     | val _ _ => exact h0.elim
     | io _ => exact h0.elim
     | bQ _ => exact h0.elim
     | box os =>
       obtain ⟨od, q1, q2⟩ := h0; simp only [Nat.add_zero] at q2; unfold rU at he; obtain ⟨q, hq, he⟩ := Option.bind_eq_some_iff.1 he; obtain ⟨p, hp, he⟩ := Option.map_eq_some_iff.1 he; obtain ⟨x2, u2, r2⟩ := q; obtain ⟨x1, u1, r1⟩ := p; injection he with e1 e2; injection e2 with e2 e3; subst e1 e2 e3; obtain ⟨g1, tb, g2, g3, g4⟩ := sJ h ps (i + 1) eA vs N1 Xq um hq; have Ms := h.ed _ q2; have hV : eF c st w (.one (.ptr i 1 0)) v := ⟨by rw [q1]; rfl, Ms.1, fun cs uB => by rw [Ms.2 cs uB, q1]⟩; obtain ⟨a1, a2, ta, a3, a4, a5⟩ := xi h i hV hp; refine ⟨fun l hl => ?_, ta ++ tb, by simp [a3, g2], fun p hp => ?_, fun ρ hp hr => ?_⟩
       · rcases List.mem_append.1 hl with hl | hl
         · exact a2 l hl
         · exact g1 l hl
       · rcases List.mem_append.1 hp with hp | hp
         · exact a4 p hp
         · exact g3 p hp
       · have RG := a5 ρ (fun p m9 => hp p (List.mem_append_left _ m9)) (fun p m9 => hr p (List.mem_append_left _ m9)); have eU := g4 ρ (fun p m9 => hp p (List.mem_append_right _ m9)) (fun p m9 => hr p (List.mem_append_right _ m9)); refine ⟨(dG qs (cq ps) x1).1, oN ps (dG qs (cq ps) x1).2, rfl, RG, ?_⟩; have : (dG qs (cq ps) x1).2 = x2 := a1; rw [this]; exact eU
end Go.TM
namespace Go.TM
open Go Go.RowKit
def start (n : Nat) (ps : List AP) (x : ar (aE (ps.map some))) : St := oe 0 (cP (ps.map some) x ++ List.replicate (n + 1 - ps.length) none)
theorem qe : (l : List (Option AP)) → (x : ar (aE l)) → (cP l x).length = l.length
 | [], _ => rfl
 | none :: l, x => by
   show (cP l x).length + 1 = l.length + 1; rw [qe l x]
 | some p :: l, x => by
   show (cP l (p.av (aE l) x).2).length + 1 = l.length + 1; rw [qe l _]
theorem x3 {c : Cz} {w : World} {lc : Nat → Nat → Loc} : (ps : List AP) → (i : Nat) → (eA : List AV) → (vs : List Value) → {x : ar (aE (ps.map some))} → hY ps eA = some x → wg c w lc i eA vs →
   ps.length = eA.length ∧ ps.length = vs.length ∧ ∀ k av, (cP (ps.map some) x)[k]? = some (some av) → ∃ v, vs[k]? = some v ∧ ru c w (i + k) (lc (i + k)) av v
 | [], i, [], vs, x, hx, h => by
   have : vs = [] := h; subst this; exact ⟨rfl, rfl, fun k av hk => by
     have hk : ([] : List (Option AV))[k]? = some (some av) := hk; simp at hk⟩
 | [], _, _ :: _, _, _, hx, _ => by simp [hY] at hx
 | _ :: _, _, [], _, _, hx, _ => by simp [hY] at hx
 | p :: ps, i, av :: eA, vs, x, hx, h => by
   obtain ⟨v, l, rfl, h1, h2⟩ := h; unfold hY at hx
   cases hy : hY ps eA with
   | none => simp [hy] at hx
   | some y =>
     simp only [hy] at hx; obtain ⟨g1, g2, g3⟩ := x3 ps (i + 1) eA l hy h2; obtain ⟨q1, q2⟩ := Eu (c := c) (w := w) (i := i) (lc := lc i) hx; refine ⟨by simp [g1], by simp [g2], fun k G2 hk => ?_⟩
     cases k with
     | zero =>
       have hk : some (some (p.av (aE (ps.map some)) x).1) = some (some G2) := hk; simp only [Option.some.injEq] at hk; subst hk; exact ⟨v, rfl, q2 v h1⟩
     | succ k =>
       have hk : (cP (ps.map some) (p.av (aE (ps.map some)) x).2)[k]? = some (some G2) := hk; rw [q1] at hk; obtain ⟨v', h3, h4⟩ := g3 k G2 hk; exact ⟨v', by simpa using h3, by rw [show i + (k + 1) = i + 1 + k by omega]; exact h4⟩
def jd (lc : Nat → Loc) (i : Nat) : (j : Nat) → List OV → List Hv
 | _, [] => []
 | j, .own A :: os => .arr i j 1 A.r.width A.xs.length (lc j) :: jd lc i (j + 1) os
 | j, .int _ _ :: os => jd lc i (j + 1) os
 | j, .bool _ :: os => jd lc i (j + 1) os
 | j, .str _ :: os => jd lc i (j + 1) os
 | j, .shr _ _ :: os => jd lc i (j + 1) os
 | j, .k9 _ _ :: os => jd lc i (j + 1) os
 | j, .fn _ _ _ :: os => jd lc i (j + 1) os
 | j, .ea :: os => jd lc i (j + 1) os
theorem xk {lc : Nat → Loc} {i : Nat} : (os : List OV) → (j : Nat) → ∀ p ∈ jd lc i j os, ∃ k A, os[k]? = some (.own A) ∧ p = .arr i (j + k) 1 A.r.width A.xs.length (lc (j + k))
 | [], j, p, h => by simp [jd] at h
 | o :: os, j, p, h => by
   have rest : p ∈ jd lc i (j + 1) os → ∃ k A, (o :: os)[k]? = some (.own A) ∧ p = .arr i (j + k) 1 A.r.width A.xs.length (lc (j + k)) := by
     intro h; obtain ⟨k, A, h1, h2⟩ := xk os (j + 1) p h; refine ⟨k + 1, A, by simpa using h1, ?_⟩; rw [h2, show j + 1 + k = j + (k + 1) by omega]
   cases o with
   | own A =>
     rcases List.mem_cons.1 h with h | h
     · exact ⟨0, A, rfl, h⟩
     · exact rest h
   | _ => exact rest h
theorem yT {lc : Nat → Loc} {i : Nat} : (os : List OV) → (j : Nat) → ∀ (k : Nat) (A : ig), os[k]? = some (.own A) → Hv.arr i (j + k) 1 A.r.width A.xs.length (lc (j + k)) ∈ jd lc i j os
 | [], j, k, A, h => by simp at h
 | o :: os, j, 0, A, h => by
   simp only [List.getElem?_cons_zero, Option.some.injEq] at h; subst h; exact List.mem_cons_self
 | o :: os, j, k + 1, A, h => by
   have := yT (lc := lc) (i := i) os (j + 1) k A (by simpa using h); rw [show j + 1 + k = j + (k + 1) by omega] at this
   cases o with
   | own A => exact List.mem_cons_of_mem _ this
   | _ => exact this
def AA (lc : Nat → Nat → Loc) : (i : Nat) → List AV → List Value → List Hv
 | _, [], _ => []
 | _, _ :: _, [] => []
 | i, .val _ _ :: as, _ :: vs => AA lc (i + 1) as vs
 | i, .io A :: as, _ :: vs => .arr i 0 1 A.r.width A.xs.length (lc i 0) :: AA lc (i + 1) as vs
 | i, .bQ os :: as, _ :: vs => jd (lc i) i 0 os ++ AA lc (i + 1) as vs
 | i, .box _ :: as, v :: vs => .box i 1 (match v with | .pointer (some ad) => ad.block | _ => 0) :: AA lc (i + 1) as vs
theorem sK {lc : Nat → Nat → Loc} : (i : Nat) → (as : List AV) → (vs : List Value) → ∀ p ∈ AA lc i as vs, ∃ k av v, as[k]? = some av ∧ vs[k]? = some v ∧ ((∃ A, av = .io A ∧ p = .arr (i + k) 0 1 A.r.width A.xs.length (lc (i + k) 0)) ∨ (∃ os, av = .box os ∧ p = .box (i + k) 1 (match v with | .pointer (some ad) => ad.block | _ => 0)) ∨ ∃ os j A, av = .bQ os ∧ os[j]? = some (.own A) ∧ p = .arr (i + k) j 1 A.r.width A.xs.length (lc (i + k) j))
 | _, [], _, p, h => by simp [AA] at h
 | _, _ :: _, [], p, h => by simp [AA] at h
 | i, .val _ _ :: as, _ :: vs, p, h => by
   obtain ⟨k, av, v, h1, h2, h3⟩ := sK (i + 1) as vs p h; exact ⟨k + 1, av, v, by simpa using h1, by simpa using h2, by rw [show i + (k + 1) = i + 1 + k by omega]; exact h3⟩
 | i, .io A :: as, v0 :: vs, p, h => by
   rcases List.mem_cons.1 h with h | h
   · exact ⟨0, .io A, v0, rfl, rfl, .inl ⟨A, rfl, h⟩⟩
   · obtain ⟨k, av, v, h1, h2, h3⟩ := sK (i + 1) as vs p h; exact ⟨k + 1, av, v, by simpa using h1, by simpa using h2, by rw [show i + (k + 1) = i + 1 + k by omega]; exact h3⟩
 | i, .box os :: as, v0 :: vs, p, h => by
   rcases List.mem_cons.1 h with h | h
   · exact ⟨0, .box os, v0, rfl, rfl, .inr (.inl ⟨os, rfl, h⟩)⟩
   · obtain ⟨k, av, v, h1, h2, h3⟩ := sK (i + 1) as vs p h; exact ⟨k + 1, av, v, by simpa using h1, by simpa using h2, by rw [show i + (k + 1) = i + 1 + k by omega]; exact h3⟩
 | i, .bQ os :: as, v0 :: vs, p, h => by
   rcases List.mem_append.1 h with h | h
   · obtain ⟨j, A, h1, h2⟩ := xk os 0 p h; rw [Nat.zero_add] at h2; exact ⟨0, .bQ os, v0, rfl, rfl, .inr (.inr ⟨os, j, A, rfl, h1, h2⟩)⟩
   · obtain ⟨k, av, v, h1, h2, h3⟩ := sK (i + 1) as vs p h; exact ⟨k + 1, av, v, by simpa using h1, by simpa using h2, by rw [show i + (k + 1) = i + 1 + k by omega]; exact h3⟩
theorem G7 {lc : Nat → Nat → Loc} : (i : Nat) → (as : List AV) → (vs : List Value) → as.length = vs.length → ∀ k av v, as[k]? = some av → vs[k]? = some v → (∀ A, av = .io A → Hv.arr (i + k) 0 1 A.r.width A.xs.length (lc (i + k) 0) ∈ AA lc i as vs) ∧ (∀ os, av = .box os → Hv.box (i + k) 1 (match v with | .pointer (some ad) => ad.block | _ => 0) ∈ AA lc i as vs) ∧ (∀ os, av = .bQ os → ∀ j A, os[j]? = some (.own A) → Hv.arr (i + k) j 1 A.r.width A.xs.length (lc (i + k) j) ∈ AA lc i as vs)
 | _, [], _, _, k, av, v, h, _ => by simp at h
 | _, _ :: _, [], hn, _, _, _, _, _ => by simp at hn
 | i, a0 :: as, v0 :: vs, hn, 0, av, v, h1, h2 => by
   simp only [List.getElem?_cons_zero, Option.some.injEq] at h1 h2; subst h1 h2; refine ⟨fun A e => ?_, fun os e => ?_, fun os e j A hj => ?_⟩
   · subst e; exact List.mem_cons_self
   · subst e; exact List.mem_cons_self
   · subst e; have := yT (lc := lc i) (i := i) os 0 j A hj; rw [Nat.zero_add] at this; exact List.mem_append_left _ this
 | i, a0 :: as, v0 :: vs, hn, k + 1, av, v, h1, h2 => by
   obtain ⟨g1, g2, g3⟩ := G7 (i + 1) as vs (by simpa using hn) k av v (by simpa using h1) (by simpa using h2); have e : i + (k + 1) = i + 1 + k := by omega
   rw [e]
   cases a0 with
   | val _ _ => exact ⟨g1, g2, g3⟩
   | io _ => exact ⟨fun A h => List.mem_cons_of_mem _ (g1 A h), fun os h => List.mem_cons_of_mem _ (g2 os h), fun os h j A hj => List.mem_cons_of_mem _ (g3 os h j A hj)⟩
   | box _ => exact ⟨fun A h => List.mem_cons_of_mem _ (g1 A h), fun os h => List.mem_cons_of_mem _ (g2 os h), fun os h j A hj => List.mem_cons_of_mem _ (g3 os h j A hj)⟩
   | bQ _ => exact ⟨fun A h => List.mem_append_right _ (g1 A h), fun os h => List.mem_append_right _ (g2 os h), fun os h j A hj => List.mem_append_right _ (g3 os h j A hj)⟩
def np (ps : List AP) (mu : Mu) : Prop :=
 ∀ p ∈ mu.an, (∃ i r W n l, p = .arr i 0 1 W n l ∧ ∃ d, ps[i]? = some (.io r d)) ∨ (∃ i od b qs, p = .box i 1 od ∧ ps[i]? = some (.box b qs)) ∨ ∃ i j W n l qs, p = .arr i j 1 W n l ∧ ps[i]? = some (.bQ qs)
theorem AB : (ps : List OP) → (t : RT) → (os : List OV) → (y : ar t) → {x : ar (mQ ps t)} → eG ps t os y = some x → ∀ (j : Nat) (A : ig), os[j]? = some (.own A) → (∃ r d, ps[j]? = some (.own r d)) ∧ ∃ B : ig, (dG ps t x).1[j]? = some (.own B) ∧ B.r.width = A.r.width ∧ B.xs.length = A.xs.length
 | [], t, [], y, x, h => by intro k A hk; simp at hk
 | [], _, _ :: _, _, _, h => by simp [eG] at h
 | _ :: _, _, [], _, _, h => by simp [eG] at h
 | p :: ps, t, o :: os, y, x, h => by
   unfold eG at h
   cases h1 : tY p o with
   | none => simp [h1] at h
   | some a =>
     cases h2 : eG ps t os y with
     | none => simp [h1, h2] at h
     | some z =>
       simp only [h1, h2] at h; have h : (a, z) = x := Option.some.inj h; subst h; intro j A hj
       cases j with
       | succ j =>
         obtain ⟨⟨r, d, q1⟩, B, q2, q3⟩ := AB ps t os y h2 j A (by simpa using hj); exact ⟨⟨r, d, by simpa using q1⟩, B, (by show (dG ps t z).1[j]? = _; exact q2), q3⟩
       | zero =>
         simp only [List.getElem?_cons_zero, Option.some.injEq] at hj; subst hj
         cases p with
         | own r d =>
           have h1 : (bif A.md.is d then cm r A.xs else none) = some a := h1; obtain ⟨_, h1⟩ := aI h1; obtain ⟨er, Jt⟩ := bD h1; refine ⟨⟨r, d, rfl⟩, { r := r, own := true, xs := a, md := d }, rfl, by show r.width = _; rw [← er], ?_⟩; show List.length (a : List (ar r)) = _; rw [Jt]
           cases er
           rfl
         | _ => cases h1
theorem yU : (ps : List AP) → (eA : List AV) → {x : ar (aE (ps.map some))} → hY ps eA = some x → ∀ (k : Nat) (av : AV), eA[k]? = some av → ∃ p : AP, ps[k]? = some p ∧ match p, av with
   | .io _ _, .io A => ∃ B : ig, (cP (ps.map some) x)[k]? = some (some (.io B)) ∧ B.r.width = A.r.width ∧ B.xs.length = A.xs.length
   | .box _ _, .box _ => True
   | .val _ _, .val _ _ => True
   | .bQ qs, .bQ os => ∃ w6 : List OV, (cP (ps.map some) x)[k]? = some (some (AV.bQ w6)) ∧ ∀ (j : Nat) (A : ig), os[j]? = some (OV.own A) → (∃ r d, qs[j]? = some (OP.own r d)) ∧ ∃ B : ig, w6[j]? = some (OV.own B) ∧ B.r.width = A.r.width ∧ B.xs.length = A.xs.length
   | _, _ => False
 | [], [], _, _ => by intro k av h; simp at h
 | [], _ :: _, _, hx => by simp [hY] at hx
 | _ :: _, [], _, hx => by simp [hY] at hx
 | p :: ps, av :: eA, x, hx => by
   unfold hY at hx
   cases hy : hY ps eA with
   | none => simp [hy] at hx
   | some y =>
     simp only [hy] at hx; have e2 : (p.av (aE (ps.map some)) x).2 = y := (Eu (c := ⟨fun _ => 0, fun _ _ => .nil, fun _ => none⟩) (w := default) (i := 0) (lc := fun _ => .nil) hx).1; intro k G2 hk
     cases k with
     | zero =>
       simp only [List.getElem?_cons_zero, Option.some.injEq] at hk; subst hk; refine ⟨p, rfl, ?_⟩
       cases p with
       | val agg qs => cases av with
         | val _ _ => trivial
         | io _ => cases agg <;> cases hx
         | box _ => cases agg <;> cases hx
         | bQ _ => cases agg <;> cases hx
       | io r d => cases av with
         | val _ _ => cases hx
         | box _ => cases hx
         | bQ _ => cases hx
         | io A =>
           have hx : (bif A.md.is d then (match cm r A.xs with | some xs => some ((xs, y) : ar (.cons (.sl r) (aE (ps.map some)))) | none => none) else none) = some x := hx; obtain ⟨_, hx⟩ := aI hx
           cases hc : cm r A.xs with
           | none => rw [hc] at hx; cases hx
           | some xs =>
             rw [hc] at hx; injection hx with hx; obtain ⟨er, Jt⟩ := bD hc; refine ⟨{ r := r, own := true, xs := x.1, md := d }, rfl, by show r.width = _; rw [← er], ?_⟩; show List.length (x.1 : List (ar r)) = _; rw [← hx]; show xs.length = _; rw [Jt]
             cases er
             rfl
       | box b qs => cases av with
         | val _ _ => cases hx
         | io _ => cases hx
         | bQ _ => cases hx
         | box _ => trivial
       | bQ qs => cases av with
         | val _ _ => cases hx
         | io _ => cases hx
         | box _ => cases hx
         | bQ os =>
           have hx : eG qs (aE (ps.map some)) os y = some x := hx; exact ⟨_, rfl, AB qs _ os y hx⟩
     | succ k =>
       obtain ⟨p', h1, h2⟩ := yU ps eA hy k G2 (by simpa using hk); refine ⟨p', by simpa using h1, ?_⟩; have eh : (cP ((p :: ps).map some) x)[k + 1]? = (cP (ps.map some) y)[k]? := by
         show (cP (ps.map some) (p.av (aE (ps.map some)) x).2)[k]? = _; rw [e2]
       cases p' <;> cases G2 <;> simp only at h2 ⊢ <;> (try exact h2)
       · obtain ⟨B, q1, q2, q3⟩ := h2; exact ⟨B, eh.trans q1, q2, q3⟩
       · obtain ⟨w6, q1, q2⟩ := h2; exact ⟨w6, eh.trans q1, q2⟩
end Go.TM
namespace Go.TM
open Go Go.RowKit
theorem Ev {P : Program} {fn : Func} {tm : Array Value} {w : World} {vals : List Value} (h : (fn.results.toList.mapM (Az tm)).run P w = .ok vals w) :
   (results fn tm).run P w = .ok (if hs : vals.toArray.size = 1 then vals.toArray[0] else .tuple vals.toArray) w := by
 have e : results fn tm = (do let vs ← fn.results.mapM (Az tm); pure (if h : vs.size = 1 then vs[0] else .tuple vs) : Sem Value) := rfl; rw [e, Array.mapM_eq_mapM_toList]; simp [Sem.run_bind, h]
theorem Kz {c : Cz} {w : World} {mu : Mu} {lc : Nat → Nat → Loc} {eA : List AV} {args : Array Value} (hH : Handed c w mu) (hA : wg c w lc 0 eA args.toList) {ps : List AP} {x : ar (aE (ps.map some))} (hx : hY ps eA = some x) {n : Nat} (hn : ps.length ≤ n) :
   ∃ (CQ : Mu) (c' : Cz), CQ.m = mu.m ∧ CQ.ok = mu.ok ∧ np ps CQ ∧ CP CQ lc 0 ps eA args.toList ∧ args.size = ps.length ∧ eA.length = ps.length ∧
     Rel w CQ c' (start n ps x) { tmps := args ++ Array.replicate (n - args.size) undef, defers := [] } w := by
 obtain ⟨l1, l2, hold⟩ := x3 ps 0 eA args.toList hx hA; have KA := yU ps eA hx; have G8 : args.size = ps.length := by rw [l2]; simp
 let a : Act := { tmps := args ++ Array.replicate (n - args.size) undef, defers := [] }
 have Nr : ∀ k v, args.toList[k]? = some v → a.eval (.tmp k) = v := by
   intro k v hk; have dC : k < args.size := by
     have := (List.getElem?_eq_some_iff.1 hk).1; simpa using this
   show (args ++ Array.replicate (n - args.size) undef).getD k undef = v; rw [Array.getD_eq_getD_getElem?, Array.getElem?_append_left dC]; rw [Array.getElem?_toList] at hk; rw [hk]; rfl
 let CQ : Mu := { m := mu.m, ok := mu.ok, an := AA lc 0 eA args.toList }
 have hlen : (cP (ps.map some) x ++ List.replicate (n + 1 - ps.length) none).length = n + 1 := by
   rw [List.length_append, qe]; simp; omega
 have DX : ∀ (i : Nat) (av : AV), (cP (ps.map some) x ++ List.replicate (n + 1 - ps.length) none)[i]? = some (some av) → (cP (ps.map some) x)[i]? = some (some av) := by
   intro i av hi
   by_cases h : i < (cP (ps.map some) x).length
   · rwa [List.getElem?_append_left h] at hi
   · rw [List.getElem?_append_right (by omega), List.getElem?_replicate] at hi
     split at hi <;> simp at hi
 have CO : HP w CQ c w := ⟨fun b l hb => ⟨hH.lt b l hb, (hH.lb b l hb).imp id fun hh => .inr ((hH.m b).2 ⟨l, hb, hh⟩)⟩, fun b _ hb => .inr ((hH.ok b).2 hb), ⟨rfl, rfl, rfl, Nat.le_refl _⟩, fun _ _ _ => rfl⟩; have Ow : xZ c w lc a 0 (cP (ps.map some) x ++ List.replicate (n + 1 - ps.length) none) := by
   intro i av hi; obtain ⟨v, h1, h2⟩ := hold i av (DX i av hi); have := Nr i v h1; rw [Nat.zero_add] at h2 ⊢; rw [this]; exact h2
 have Ns : ∀ k av v, eA[k]? = some av → args.toList[k]? = some v → ru c w k (lc k) av v := by
   have key : ∀ (eA : List AV) (i : Nat) (vs : List Value), wg c w lc i eA vs → ∀ k av v, eA[k]? = some av → vs[k]? = some v → ru c w (i + k) (lc (i + k)) av v := by
     intro eA
     induction eA with
     | nil => intro i vs _ k av v h; simp at h
     | cons a0 eA ih =>
       intro i vs h k av v h1 h2; obtain ⟨v0, l, rfl, g1, g2⟩ := h
       cases k with
       | zero => simp at h1 h2; subst h1 h2; exact g1
       | succ k =>
         have := ih (i + 1) l g2 k av v (by simpa using h1) (by simpa using h2)
         rwa [show i + 1 + k = i + (k + 1) by omega] at this
   intro k av v h1 h2; have := key eA 0 args.toList hA k av v h1 h2
   rwa [Nat.zero_add] at this
 have Tn : ∀ p ∈ CQ.an, Kt (cP (ps.map some) x ++ List.replicate (n + 1 - ps.length) none) lc a p := by
   intro p hp; obtain ⟨k, av, v, h1, h2, h3⟩ := sK 0 eA args.toList p hp; have hk : k < ps.length := by rw [l1]; exact (List.getElem?_eq_some_iff.1 h1).1
   simp only [Nat.zero_add] at h3; obtain ⟨p', q1, q2⟩ := KA k av h1; rcases h3 with ⟨A, rfl, rfl⟩ | ⟨os, rfl, rfl⟩ | ⟨os, j, A, rfl, hj, rfl⟩
   · refine ⟨rfl, by rw [hlen]; omega, fun G2 Ox => .inl ?_⟩
     cases p' with
     | io r dd =>
       obtain ⟨B, e1, e2, e3⟩ := q2; have := DX k G2 Ox; rw [e1] at this; simp only [Option.some.injEq] at this; exact ⟨B, this.symm, fun _ => ⟨e2, e3, rfl⟩⟩
     | val _ _ => exact q2.elim
     | box _ _ => exact q2.elim
     | bQ _ => exact q2.elim
   · refine ⟨rfl, by rw [hlen]; omega, fun w6 _ => ?_⟩; obtain ⟨od, vs, ty, e1, _⟩ := Ns k _ v h1 h2; rw [Nr k v h2, e1]
   · refine ⟨rfl, by rw [hlen]; omega, fun G2 Ox => .inr ?_⟩
     cases p' with
     | io r dd => exact q2.elim
     | val _ _ => exact q2.elim
     | box _ _ => exact q2.elim
     | bQ qs =>
       obtain ⟨w6, e1, e2⟩ := q2; have := DX k G2 Ox; rw [e1] at this; simp only [Option.some.injEq] at this; obtain ⟨_, B, e3, e4, e5⟩ := e2 j A hj; refine ⟨w6, this.symm, fun A' ew => ?_⟩; rw [e3] at ew; injection ew with ew; injection ew with ew; subst ew; exact ⟨e4, e5, rfl⟩
 obtain ⟨c', hR⟩ := Rel.G5 (a := a) CO rfl Ow Tn; refine ⟨CQ, c', rfl, rfl, fun p hp => ?_, fun k p av v h0 h1 h2 => ?_, G8, l1.symm, hR⟩
 · obtain ⟨k, av, v, h1, h2, h3⟩ := sK 0 eA args.toList p hp; simp only [Nat.zero_add] at h3; obtain ⟨p', q1, q2⟩ := KA k av h1; rcases h3 with ⟨A, rfl, rfl⟩ | ⟨os, rfl, rfl⟩ | ⟨os, j, A, rfl, hj, rfl⟩
   · cases p' with
     | io r dd => exact .inl ⟨k, r, _, _, _, rfl, dd, q1⟩
     | val _ _ => exact q2.elim
     | box _ _ => exact q2.elim
     | bQ _ => exact q2.elim
   · cases p' with
     | io r dd => exact q2.elim
     | val _ _ => exact q2.elim
     | box b qs => exact .inr (.inl ⟨k, _, b, qs, rfl, q1⟩)
     | bQ _ => exact q2.elim
   · cases p' with
     | io r dd => exact q2.elim
     | val _ _ => exact q2.elim
     | box b qs => exact q2.elim
     | bQ qs => exact .inr (.inr ⟨k, j, _, _, _, qs, rfl, q1⟩)
 · obtain ⟨p', q1, q2⟩ := KA k av h1; rw [h0] at q1
   cases q1
   have hh := Ns k av v h1 h2; obtain ⟨a1, a2, a3⟩ := G7 (lc := lc) 0 eA args.toList (by rw [← l1, l2]) k av v h1 h2; rw [Nat.zero_add] at a1 a2 a3 ⊢
   cases p with
   | val _ _ => cases av with
     | val _ _ => trivial
     | io _ => exact q2.elim
     | box _ => exact q2.elim
     | bQ _ => exact q2.elim
   | bQ qs => cases av with
     | val _ _ => exact q2.elim
     | io _ => exact q2.elim
     | box _ => exact q2.elim
     | bQ os =>
       obtain ⟨us, rfl, hl, Ki⟩ := hh; obtain ⟨w6, _, e2⟩ := q2; obtain ⟨n1, _⟩ := bI.Ks os 0 _ hl; refine ⟨us, rfl, fun j A hj => ⟨(e2 j A hj).1, ?_⟩⟩; have dC : j < us.toList.length := by rw [n1]; exact (List.getElem?_eq_some_iff.1 hj).1
       have hO : OwnAt c w (.cI k j) (lc k j) A us.toList[j] := Ki j _ _ hj (List.getElem?_eq_getElem dC); exact ⟨_, List.getElem?_eq_getElem dC, hO.1, hO.2.1, a3 os rfl j A hj⟩
   | io r dd => cases av with
     | val _ _ => exact q2.elim
     | box _ => exact q2.elim
     | bQ _ => exact q2.elim
     | io A =>
       have hO : OwnAt c w (.cI k 0) (lc k 0) A v := hh; exact ⟨hO.1, hO.2.1, a1 A rfl⟩
   | box _ _ => cases av with
     | val _ _ => exact q2.elim
     | io _ => exact q2.elim
     | bQ _ => exact q2.elim
     | box os =>
       obtain ⟨od, vs, ty, e1, _⟩ := hh; refine ⟨od, e1, ?_⟩; have := a2 os rfl; rw [e1] at this; exact this
theorem Oy {P : Program} {T : la} (hT : gq P T) {w0 : World} {mu CQ : Mu} (hm : CQ.m = mu.m) (gJ : CQ.ok = mu.ok) {c : Cz} {st : St} {a : Act} {w : World} (h : Rel w0 CQ c st a w) {fn : Func} {ps : List AP} {rs : List RP} (SW : wj T a.tmps fn.results.toList rs)
   {lc : Nat → Nat → Loc} {eA : List AV} {vs : List Value} (h1 : ps.length = eA.length) (h2 : ps.length = vs.length) (hl : CP CQ lc 0 ps eA vs) {e : Ex} {y : ar (dn rs (cq ps))} (hf : FR rs ps e st = some y) :
   (e = .normal ∨ e = .ret) ∧ ∃ v, (results fn a.tmps).run P w = .ok v w ∧ ∃ c', HP w0 mu c' w ∧ uJ c' w (iP rs (cq ps) y).1 v ∧ jO c' w lc 0 eA vs (oN ps (iP rs (cq ps) y).2) := by
 have he : e = .normal ∨ e = .ret := by
   cases e with
   | normal => exact .inl rfl
   | ret => exact .inr rfl
   | exit m => cases hf
 refine ⟨he, ?_⟩; have hf : ((rU st 0 ps).bind fun x => (Ay st rs (cq ps) x.1).bind fun q => bif s4 (cn q.2.1 ++ x.2.1) && apart (cn q.2.1 ++ x.2.1) (q.2.2 ++ x.2.2) then some q.1 else none) = some y := by
   rcases he with rfl | rfl <;> exact hf
 obtain ⟨qx, hqx, hf⟩ := Option.bind_eq_some_iff.1 hf; obtain ⟨qr, YJ, hf⟩ := Option.bind_eq_some_iff.1 hf; obtain ⟨rV, hy⟩ := aI hf; injection hy with hy; obtain ⟨x1, u1, r1⟩ := qx; obtain ⟨x2, u2, r2⟩ := qr; subst hy; rw [Bool.and_eq_true] at rV; obtain ⟨a1, tb, a2, a3, a4⟩ := sJ h ps 0 eA vs h1 h2 hl hqx; obtain ⟨b1, b2, b3, vals, b4, b5, b6⟩ := B7 hT h fn.results.toList rs SW (cq ps) x1 YJ; have yN : ∀ l ∈ cn u2 ++ u1, l.real = true := fun l hl => (List.mem_append.1 hl).elim (b3 l) (a1 l)
 have FB := pf _ yN rV.1; have Bh : ∀ p ∈ r2 ++ r1, Lb.sp p.1 p.2 ∉ cn u2 ++ u1 := by
   intro p hp hm; have h1 := List.all_eq_true.1 rV.2 p hp; have h2 := List.all_eq_true.1 h1 _ hm; rw [(Lb.w8 rfl).2 rfl] at h2
   cases h2
 let tab := xa .jw 0 u2 ++ tb
 have To : tab.map (·.1) = cn u2 ++ u1 := by show (xa .jw 0 u2 ++ tb).map _ = _; rw [List.map_append, xc, a2]
 have sB := Classical.propDecidable
 let ρ : Lb → Option Lb := fun l => match look tab l with | some y => some y | none => if l = .out then some .out else none
 have hρt : ∀ p ∈ tab, ρ p.1 = some p.2 := by
   intro p hp; have := w9 tab (by rw [To]; exact FB) hp; show (match look tab p.1 with | some y => some y | none => _) = _; rw [this]
 have xe : ∀ {l y}, look tab l = some y → l ∈ cn u2 ++ u1 := by
   intro l y hl; have := vu tab hl; rw [← To]; exact List.mem_map.2 ⟨_, this, rfl⟩
 have hρr : ∀ p ∈ r2 ++ r1, ρ (.sp p.1 p.2) = none := by
   intro p hp; show (match look tab (.sp p.1 p.2) with | some y => some y | none => if Lb.sp p.1 p.2 = .out then some Lb.out else none) = none
   cases hl : look tab (.sp p.1 p.2) with
   | some y => exact absurd (xe hl) (Bh p hp)
   | none => simp
 have hρo : ρ .out = some .out := by
   show (match look tab Lb.out with | some y => some y | none => if Lb.out = Lb.out then some Lb.out else none) = _
   cases hl : look tab Lb.out with
   | some y => have := yN _ (xe hl); cases this
   | none => simp
 have CO : HP w0 mu (c.map ρ) w := by
   refine ⟨fun b l hb => ?_, fun b hb hn => ?_, h.kept, by rw [← hm]; exact h.old⟩
   · obtain ⟨k, hk, e⟩ := Cz.map_some hb; obtain ⟨g1, g2⟩ := h.owned b k hk; refine ⟨g1, ?_⟩; rw [← hm]; refine g2.imp (fun e2 => ?_) id; subst e2; rw [hρo] at e
     cases e; rfl
   · rw [← hm, ← gJ]
     cases hk : c.own b with
     | none => exact h.free b hb hk
     | some k =>
       have e : ρ k = none := (Cz.ku (ρ := ρ) hk).symm.trans hn; rcases (h.owned b k hk).2 with g | g | g
       · subst g; rw [hρo] at e; cases e
       · exact absurd g (Nat.not_le_of_lt hb)
       · exact .inl g
 have hX := a4 ρ (fun p hp => hρt p (List.mem_append_right _ hp)) (fun p hp => hρr p (List.mem_append_right _ hp)); have hR := b6 ρ 0 (fun k l hk => by
   have := hρt _ (List.mem_append_left tb (uL .jw 0 u2 k l hk)); exact this) (fun p hp => hρr p (List.mem_append_left _ hp))
 refine ⟨_, Ev b4, c.map ρ, CO, ?_, by rw [b1]; exact hX⟩; have hlen : vals.length = (iP rs (cq ps) x2).1.length := by
   have : rs.length = fn.results.toList.length := by
     have key : ∀ (l : List ResultVar) (m : List RP), wj T a.tmps l m → m.length = l.length := by
       intro l
       induction l with
       | nil => intro m hm; cases m with
         | nil => rfl
         | cons _ _ => exact hm.elim
       | cons v l ih => intro m hm; cases m with
         | nil => exact hm.elim
         | cons r m => simp [ih m hm.2]
     exact key _ _ SW
   rw [b5, b2, this]
 by_cases hs : vals.toArray.size = 1
 · rw [dif_pos hs]; have wP : vals.length = 1 := by simpa using hs
   obtain ⟨v, rfl⟩ : ∃ v, vals = [v] := by
     cases vals with
     | nil => cases wP
     | cons v l => cases l with
       | nil => exact ⟨v, rfl⟩
       | cons _ _ => simp at wP
   rw [wP] at hlen
   cases ho : (iP rs (cq ps) x2).1 with
   | nil => rw [ho] at hlen; cases hlen
   | cons r l => cases l with
     | cons _ _ => rw [ho] at hlen; simp at hlen
     | nil =>
       rw [ho] at hR; exact .inl ⟨r, rfl, hR⟩
 · rw [dif_neg hs]; refine .inr ⟨by rw [← hlen]; simpa using hs, vals.toArray, rfl, by simpa using hR⟩
theorem Ew {P : Program} {T : la} (hT : gq P T) (hE : wc P T) {S : ld} (hS : oL P S) {D : mL} {f : FuncId} {fn : Func} {code : Code} {n : Nat} {ps : List AP} {rs : List RP} {L : p9 (ar (dn rs (cq ps)))} {Nt : Nat → Array Oper → Prop}
   {t : ar (aE (ps.map some)) → Option (ar (dn rs (cq ps)))}
   (hf : P.funcs[f]? = some fn) (hb : fn.body = some code) (hn : fn.ntmps = n) (Mb : ps.length ≤ n) (ue : ja n code = true) (Aa : ∀ tm, wj T tm fn.results.toList rs)
   (hL : ∀ (w0 : World) (mu : Mu) (y : ar (dn rs (cq ps))), np ps mu → fq (oJ P w0 mu n L y) code)
   (hD : ∀ (w0 : World) (mu : Mu), sC (ar (dn rs (cq ps))) P T S D w0 mu n Nt) (Tp : fH Nt code)
   (KB : ∀ (w0 : World) (mu : Mu) (c : Cz) (a : Act) (w : World) x, Rel w0 mu c (start n ps x) a w → a.tmps.size = n → ∃ c2 hM, Rel w0 mu c2 hM a w ∧ fU T S D L code hM (FR rs ps) = t x) : FnOk P f (sI ps rs t) := by
 intro c w mu lc eA args A y hH hA hs ho; unfold sI at hs
 cases hx : hY ps eA with
 | none => rw [hx] at hs; cases hs
 | some x =>
   rw [hx] at hs; simp only [Option.some.injEq] at hs; subst hs; have YK : t x = some y := ho; obtain ⟨CQ, c', hm, gJ, Oz, Tq, G8, Oh, hR⟩ := Kz hH hA hx Mb; refine calls_of_wp hf hb ?_; rw [hn]; have mj : (args ++ Array.replicate (n - args.size) undef).size = n := by simp; omega
   obtain ⟨c2, hM, Yu, Ts⟩ := KB w CQ c' _ w x hR mj; refine D6 (xh hT hE hS w CQ n) (hD w CQ) code ue (hL w CQ y Oz) Tp (fun {e} {c1} {zi} {a1} {w1} h1 h2 h3 => ?_) Yu mj (Ts.trans YK); obtain ⟨he, v, rh, c2, Jr, hV, hX⟩ := Oy (P := P) hT hm gJ h1 (Aa a1.tmps) Oh.symm (by rw [← G8]; simp) Tq h3; have Ke : a1.defers = [] ∧ ∃ v, (results fn a1.tmps).run P w1 = .ok v w1 ∧ (∃ v', Ending.returned v = .returned v' ∧ ∃ c', HP w mu c' w1 ∧ uJ c' w1 (iP rs (cq ps) y).1 v' ∧ jO c' w1 lc 0 eA args.toList (oN ps (iP rs (cq ps) y).2)) :=
     ⟨h1.plain, v, rh, v, rfl, c2, Jr, hV, hX⟩
   rcases he with rfl | rfl <;> exact Ke
theorem Tt {P : Program} {T : la} (hT : gq P T) (hE : wc P T) {S : ld} (hS : oL P S) {D : mL} {f : FuncId} {fn : Func} {code : Code} {n : Nat} {ps : List AP} {rs : List RP} {L : p9 (ar (dn rs (cq ps)))} {Nt : Nat → Array Oper → Prop}
   {t : ar (aE (ps.map some)) → Option (ar (dn rs (cq ps)))}
   (hf : P.funcs[f]? = some fn) (hb : fn.body = some code) (hn : fn.ntmps = n) (Mb : ps.length ≤ n) (ue : ja n code = true) (Aa : ∀ tm, wj T tm fn.results.toList rs)
   (hL : ∀ (w0 : World) (mu : Mu) (y : ar (dn rs (cq ps))), np ps mu → fq (oJ P w0 mu n L y) code)
   (hD : ∀ (w0 : World) (mu : Mu), sC (ar (dn rs (cq ps))) P T S D w0 mu n Nt) (Tp : fH Nt code)
   (KB : ∀ x, fU T S D L code (start n ps x) (FR rs ps) = t x) : FnOk P f (sI ps rs t) :=
 Ew hT hE hS hf hb hn Mb ue Aa hL hD Tp (fun _ _ c _ _ x h _ => ⟨c, _, h, KB x⟩)
end Go.TM
namespace Go.TM
open Go Go.RowKit
def iter {X E : Type} (round : X → Option (Sum X E)) : Nat → X → Option E
 | 0, _ => none
 | n + 1, x => match round x with
   | some (.inl y) => iter round n y
   | some (.inr e) => some e
   | none => none
theorem x4 {X E : Type} {round : X → Option (Sum X E)} : (n : Nat) → {x : X} → {e : E} → iter round n x = some e → ∀ m, n ≤ m → iter round m x = some e
 | 0, _, _, h, _, _ => by cases h
 | n + 1, x, e, h, 0, hm => by omega
 | n + 1, x, e, h, m + 1, hm => by
   unfold iter at h ⊢
   cases hr : round x with
   | none => rw [hr] at h; cases h
   | some z => cases z with
     | inl y => rw [hr] at h; exact x4 n h m (by omega)
     | inr e' => rw [hr] at h; exact h
noncomputable def aD {X E : Type} (round : X → Option (Sum X E)) (x : X) : Option E :=
 have := Classical.propDecidable (∃ e n, iter round n x = some e)
 if h : ∃ e n, iter round n x = some e then some (Classical.choose h) else none
theorem AD {X E : Type} {round : X → Option (Sum X E)} {x : X} {e : E} {n : Nat} (h : iter round n x = some e) : aD round x = some e := by
 have hex : ∃ e n, iter round n x = some e := ⟨e, n, h⟩; unfold aD; simp only; rw [dif_pos hex]; obtain ⟨m, hm⟩ := Classical.choose_spec hex; have h1 := x4 m hm (max m n) (Nat.le_max_left _ _); have h2 := x4 n h (max m n) (Nat.le_max_right _ _); rw [h1] at h2; exact h2
theorem tn {X E : Type} {round : X → Option (Sum X E)} {x : X} {e : E} (h : aD round x = some e) : ∃ n, iter round n x = some e := by
 unfold aD at h; simp only at h
 split at h
 · rename_i hex; injection h with h; rw [← h]; exact Classical.choose_spec hex
 · cases h
theorem je {X E : Type} (round : X → Option (Sum X E)) (x : X) : aD round x = match round x with | some (.inl y) => aD round y | some (.inr e) => some e | none => none := by
 cases hr : round x with
 | none =>
   cases h : aD round x with
   | none => rfl
   | some e =>
     obtain ⟨n, hn⟩ := tn h
     cases n with
     | zero => cases hn
     | succ n => unfold iter at hn; rw [hr] at hn; cases hn
 | some z => cases z with
   | inr e => exact AD (n := 1) (by unfold iter; rw [hr])
   | inl y =>
     simp only
     cases h : aD round y with
     | some e =>
       obtain ⟨n, hn⟩ := tn h; exact AD (n := n + 1) (by unfold iter; rw [hr]; exact hn)
     | none =>
       cases h2 : aD round x with
       | none => rfl
       | some e =>
         obtain ⟨n, hn⟩ := tn h2
         cases n with
         | zero => cases hn
         | succ n =>
           unfold iter at hn; rw [hr] at hn; rw [AD hn] at h
           cases h
def Ey (st : St) (hp : List (Option AP)) : Option (ar (aE hp)) :=
 (nk st 0 hp).bind fun q => bif s4 q.2.1 && apart q.2.1 q.2.2 then some q.1 else none
def qQ (hp : List (Option AP)) (x : ar (aE hp)) : St := oe 0 (cP hp x)
def iC : List AP → List (Option AP) → Bool
 | [], _ => true
 | .val _ _ :: ps, _ :: hp => iC ps hp
 | .io _ _ :: ps, o :: hp => (match o with | none => true | some (.io _ _) => true | _ => false) && iC ps hp
 | .box _ _ :: ps, o :: hp => (match o with | none => true | some (.box l _) => l | some (.val _ _) => true | _ => false) && iC ps hp
 | .bQ _ :: _, _ :: _ => false
 | _ :: _, [] => false
theorem tp : (ps : List AP) → (hp : List (Option AP)) → iC ps hp = true → ∀ (i : Nat) (p : AP), ps[i]? = some p → ∃ o, hp[i]? = some o ∧ match p with
   | .val _ _ => True
   | .io _ _ => o = none ∨ ∃ r d, o = some (.io r d)
   | .box _ _ => o = none ∨ (∃ a b, o = some (.val a b)) ∨ ∃ b, o = some (.box true b)
   | .bQ _ => False
 | [], _, _ => by intro i p h; simp at h
 | p :: ps, [], h => by cases p <;> simp [iC] at h
 | p :: ps, o :: hp, h => by
   intro i p' hi; have eU : iC ps hp = true := by
     cases p with
     | val _ _ => exact h
     | io _ => unfold iC at h; rw [Bool.and_eq_true] at h; exact h.2
     | bQ _ => cases h
     | box _ _ => unfold iC at h; rw [Bool.and_eq_true] at h; exact h.2
   cases i with
   | succ i => exact (tp ps hp eU i p' (by simpa using hi)).imp fun o ho => ⟨by simpa using ho.1, ho.2⟩
   | zero =>
     simp only [List.getElem?_cons_zero, Option.some.injEq] at hi; subst hi; refine ⟨o, rfl, ?_⟩
     cases p with
     | val _ _ => trivial
     | bQ _ => cases h
     | io _ =>
       unfold iC at h; rw [Bool.and_eq_true] at h
       cases o with
       | none => exact .inl rfl
       | some q => cases q with
         | io r d => exact .inr ⟨r, d, rfl⟩
         | val _ _ => cases h.1
         | box _ _ => cases h.1
         | bQ _ => cases h.1
     | box _ _ =>
       unfold iC at h; rw [Bool.and_eq_true] at h
       cases o with
       | none => exact .inl rfl
       | some q => cases q with
         | io r d => cases h.1
         | bQ _ => cases h.1
         | val a b => exact .inr (.inl ⟨a, b, rfl⟩)
         | box l b =>
           have : l = true := h.1; subst this; exact .inr (.inr ⟨b, rfl⟩)
end Go.TM
namespace Go.TM
open Go Go.RowKit
theorem KC {st : St} {k : Nat} {rr : RT} {dd : Md} {t : RT} {V : V} {y : ar t} {x : ar (.cons (.sl rr) t)} {u : List Lb} {r : List (Nat × Nat)} (h : yS st k (.io rr dd) t V y = some (x, u, r)) : ∃ A, bd st k 0 1 = some A ∧ cm rr A.xs = some x.1 := by
 cases V with
 | agg _ => cases h
 | nb _ => cases h
 | one cx => cases cx with
   | ref a j g vw => cases vw with
     | full =>
       have h : (bif Nat.beq a k && (Nat.beq j 0 && Nat.beq g 1) then ((bd st a j g).bind fun A => bif A.own && A.md.is dd then (cm rr A.xs).map fun xs => ((xs, y), [Lb.sp a j], ([] : List (Nat × Nat))) else none) else none) = some (x, u, r) := h; obtain ⟨h1, h2⟩ := aI h; rw [Bool.and_eq_true, Bool.and_eq_true] at h1; have e1 := Nat.eq_of_beq_eq_true h1.1; have e2 := Nat.eq_of_beq_eq_true h1.2.1; have e3 := Nat.eq_of_beq_eq_true h1.2.2; subst e1 e2 e3; obtain ⟨A, hA, h3⟩ := Option.bind_eq_some_iff.1 h2; obtain ⟨_, h4⟩ := aI h3; obtain ⟨xs, Nq, e⟩ := Option.map_eq_some_iff.1 h4; injection e with e _; exact ⟨A, hA, by rw [Nq, ← e]; rfl⟩
     | «from» _ => cases h
     | sub _ _ => cases h
   | _ => cases h
theorem H5 {st : St} {k : Nat} {qs : List OP} {t : RT} {V : V} {y : ar t} {x : ar (mQ qs t)} {u : List Lb} {r : List (Nat × Nat)} (h : yS st k (.box true qs) t V y = some (x, u, r)) : V = .one (.ptr k 1 0) ∧ ∃ cs, dE st k 1 = some cs := by
 cases V with
 | agg _ => cases h
 | nb _ => cases h
 | one cx => cases cx with
   | ptr b g off =>
     have h : (bif Nat.beq off 0 && (!true || (Nat.beq b k && Nat.beq g 1)) then ((dE st b g).bind fun cs => (kG st qs t cs y).map fun q => (q.1, Lb.box b :: cn q.2.1, q.2.2)) else none) = some (x, u, r) := h; obtain ⟨h1, h2⟩ := aI h; simp only [Bool.not_true, Bool.false_or] at h1; rw [Bool.and_eq_true, Bool.and_eq_true] at h1; have e1 := Nat.eq_of_beq_eq_true h1.1; have e2 := Nat.eq_of_beq_eq_true h1.2.1; have e3 := Nat.eq_of_beq_eq_true h1.2.2; subst e1 e2 e3; obtain ⟨cs, uB, _⟩ := Option.bind_eq_some_iff.1 h2; exact ⟨rfl, cs, uB⟩
   | _ => cases h
theorem uU {w0 : World} {mu : Mu} {c : Cz} {st : St} {a : Act} {w : World} (h : Rel w0 mu c st a w) : (l : List (Option AP)) → (k : Nat) → {x : ar (aE l)} → {u : List Lb} → {r : List (Nat × Nat)} → nk st k l = some (x, u, r) → ∀ (i : Nat),
   (∀ rr dd, l[i]? = some (some (.io rr dd)) → ∃ B A : ig, (cP l x)[i]? = some (some (.io B)) ∧ bd st (k + i) 0 1 = some A ∧ B.r.width = A.r.width ∧ B.xs.length = A.xs.length) ∧
   (∀ qs, l[i]? = some (some (.box true qs)) → (∃ cs, dE st (k + i) 1 = some cs) ∧ cz st (k + i) = .one (.ptr (k + i) 1 0)) ∧
   (l[i]? = some none → (cP l x)[i]? = some none) ∧ (∀ ag b, l[i]? = some (some (.val ag b)) → ∃ os, (cP l x)[i]? = some (some (.val ag os)))
 | [], k, x, u, r, he => by intro i; simp
 | none :: l, k, x, u, r, he => by
   intro i
   cases i with
   | zero => exact ⟨fun _ _ h => by simp at h, fun _ h => by simp at h, fun _ => rfl, fun _ _ h => by simp at h⟩
   | succ i =>
     have := uU h l (k + 1) he i; rw [show k + 1 + i = k + (i + 1) by omega] at this; exact this
 | some p :: l, k, x, u, r, he => by
   intro i; unfold nk at he
   cases h1 : nk st (k + 1) l with
   | none => simp [h1] at he
   | some q1 =>
     obtain ⟨y, us, rs⟩ := q1; simp only [h1] at he
     cases h2 : yS st k p (aE l) (cz st k) y with
     | none => simp [h2] at he
     | some q2 =>
       obtain ⟨x1, u1, r1⟩ := q2; simp only [h2] at he; injection he with he; injection he with e1 e2; subst e1
       cases i with
       | succ i =>
         have hh := uU h l (k + 1) h1 i; rw [show k + 1 + i = k + (i + 1) by omega] at hh; have e : (p.av (aE l) x1).2 = y := (xi h k (h.fp k) h2).1; have e2 : (cP (some p :: l) x1)[i + 1]? = (cP l y)[i]? := by
           show (cP l (p.av (aE l) x1).2)[i]? = _; rw [e]
         rw [e2]; exact hh
       | zero =>
         have e2 : (cP (some p :: l) x1)[0]? = some (some (p.av (aE l) x1).1) := rfl; rw [e2]; simp only [List.getElem?_cons_zero, Option.some.injEq, Nat.add_zero]; refine ⟨fun rr dd e => ?_, fun qs e => ?_, (fun e => by cases e), fun ag b e => ?_⟩
         · subst e; obtain ⟨A, hA, hc⟩ := KC h2; obtain ⟨er, Jt⟩ := bD hc; refine ⟨_, A, rfl, hA, by show rr.width = _; rw [← er], ?_⟩; show List.length (x1.1 : List (ar rr)) = _; rw [Jt]
           cases er
           rfl
         · subst e; obtain ⟨q1, q2⟩ := H5 h2; exact ⟨q2, q1⟩
         · subst e; exact ⟨_, rfl⟩
end Go.TM
namespace Go.TM
open Go Go.RowKit
theorem CR {w0 : World} {mu : Mu} {c : Cz} {st : St} {a : Act} {w : World} (h : Rel w0 mu c st a w) {ps : List AP} (hs : np ps mu) {hp : List (Option AP)} (rR : iC ps hp = true) {x : ar (aE hp)} (hx : Ey st hp = some x) : ∃ c', Rel w0 mu c' (qQ hp x) a w := by
 obtain ⟨q, hq, HG⟩ := Option.bind_eq_some_iff.1 hx; obtain ⟨rV, DV⟩ := aI HG; injection DV with DV; obtain ⟨x0, u, r⟩ := q; subst DV; rw [Bool.and_eq_true] at rV; obtain ⟨yN, tb, Kc, S3, hold⟩ := uT h hp 0 hq; have Tu := uU h hp 0 hq; have FB := pf _ yN rV.1; have Bh : ∀ p ∈ r, Lb.sp p.1 p.2 ∉ u := by
   intro p hp hm; have h1 := List.all_eq_true.1 rV.2 p hp; have h2 := List.all_eq_true.1 h1 _ hm; rw [(Lb.w8 rfl).2 rfl] at h2
   cases h2
 have sB := Classical.propDecidable
 let ρ : Lb → Option Lb := fun l => match look tb l with | some y => some y | none => if l = .out then some .out else none
 have hρt : ∀ p ∈ tb, ρ p.1 = some p.2 := by
   intro p hp; have := w9 tb (by rw [Kc]; exact FB) hp; show (match look tb p.1 with | some y => some y | none => _) = _; rw [this]
 have xe : ∀ {l y}, look tb l = some y → l ∈ u := by
   intro l y hl; have := vu tb hl; rw [← Kc]; exact List.mem_map.2 ⟨_, this, rfl⟩
 have hρr : ∀ p ∈ r, ρ (.sp p.1 p.2) = none := by
   intro p hp; show (match look tb (.sp p.1 p.2) with | some y => some y | none => if Lb.sp p.1 p.2 = .out then some Lb.out else none) = none
   cases hl : look tb (.sp p.1 p.2) with
   | some y => exact absurd (xe hl) (Bh p hp)
   | none => simp
 have hρo : ρ .out = some .out := by
   show (match look tb Lb.out with | some y => some y | none => if Lb.out = Lb.out then some Lb.out else none) = _
   cases hl : look tb Lb.out with
   | some y => have := yN _ (xe hl); cases this
   | none => simp
 have CO : HP w0 mu (c.map ρ) w := by
   refine ⟨fun b l hb => ?_, fun b hb hn => ?_, h.kept, h.old⟩
   · obtain ⟨k, hk, e⟩ := Cz.map_some hb; obtain ⟨g1, g2⟩ := h.owned b k hk; refine ⟨g1, g2.imp (fun e2 => ?_) id⟩; subst e2; rw [hρo] at e
     cases e; rfl
   · cases hk : c.own b with
     | none => exact h.free b hb hk
     | some k =>
       have e : ρ k = none := (Cz.ku (ρ := ρ) hk).symm.trans hn; rcases (h.owned b k hk).2 with g | g | g
       · subst g; rw [hρo] at e; cases e
       · exact absurd g (Nat.not_le_of_lt hb)
       · exact .inl g
 refine Rel.G5 CO h.plain (hold ρ hρt hρr) (fun p hpm => ?_); have Ms := h.ed p hpm; have hlen : ∀ (i : Nat) (o : Option AP), hp[i]? = some o → i < (cP hp x0).length := fun i o ho => by rw [qe]; exact (List.getElem?_eq_some_iff.1 ho).1
 rcases hs p hpm with ⟨i, rr, W, n, l, rfl, dd, N8⟩ | ⟨i, od, b, qs, rfl, N8⟩ | ⟨i, j, W, n, l, qs, rfl, N8⟩
 · obtain ⟨o, ho, Tv⟩ := tp ps hp rR i _ N8; refine ⟨rfl, hlen i o ho, fun av Eg => .inl ?_⟩; rcases Tv with rfl | ⟨r2, d2, rfl⟩
   · rw [(Tu i).2.2.1 ho] at Eg; cases Eg
   · obtain ⟨B, A, e1, e2, e3, e4⟩ := (Tu i).1 r2 d2 ho; rw [e1] at Eg; simp only [Option.some.injEq] at Eg; rw [Nat.zero_add] at e2; obtain ⟨f1, f2, f3⟩ := Ms.2 A e2; exact ⟨B, Eg.symm, fun _ => ⟨e3.trans f1, e4.trans f2, f3⟩⟩
 · obtain ⟨o, ho, Tv⟩ := tp ps hp rR i _ N8; refine ⟨rfl, hlen i o ho, fun os rQ => ?_⟩; rcases Tv with rfl | ⟨a1, b1, rfl⟩ | ⟨b1, rfl⟩
   · rw [(Tu i).2.2.1 ho] at rQ; cases rQ
   · obtain ⟨w6, e⟩ := (Tu i).2.2.2 a1 b1 ho; rw [e] at rQ; cases rQ
   · obtain ⟨⟨cs, uB⟩, hv⟩ := (Tu i).2.1 b1 ho; rw [Nat.zero_add] at uB hv; have sF := h.fp i; rw [hv] at sF; rw [sF.2.2 cs uB, Ms.2 cs uB]
 · obtain ⟨o, ho, Tv⟩ := tp ps hp rR i _ N8; exact Tv.elim
def x5 (id : Nat) (hp e0 e1 : List (Option AP)) : Ex → St → Option (Sum (ar (aE hp)) (Sum (ar (aE e0)) (ar (aE e1))))
 | .normal, st => (Ey st hp).map .inl
 | .exit m, st => bif Nat.beq m id then (Ey st e0).map fun y => .inr (.inl y) else none
 | .ret, st => (Ey st e1).map fun y => .inr (.inr y)
noncomputable def x6 {R : Type} (hp e0 e1 : List (Option AP)) (round : ar (aE hp) → Option (Sum (ar (aE hp)) (Sum (ar (aE e0)) (ar (aE e1))))) (st : St) (k : Ex → St → Option R) : Option R :=
 (Ey st hp).bind fun x => (aD round x).bind fun z => match z with
   | .inl y => k .normal (qQ e0 y)
   | .inr y => k .ret (qQ e1 y)
theorem Mt {R : Type} {P : Program} {T : la} {S : ld} {D : mL} {n id : Nat} {w0 : World} {mu : Mu} {ps : List AP} {hp e0 e1 : List (Option AP)} {b : Code} {r : R} {L : p9 R} {Nt : Nat → Array Oper → Prop}
   {L' : p9 (Sum (ar (aE hp)) (Sum (ar (aE e0)) (ar (aE e1))))} {round : ar (aE hp) → Option (Sum (ar (aE hp)) (Sum (ar (aE e0)) (ar (aE e1))))}
   (DG : tj P T S w0 mu n) (hD : sC (Sum (ar (aE hp)) (Sum (ar (aE e0)) (ar (aE e1)))) P T S D w0 mu n Nt) (hs : np ps mu) (hf : (iC ps hp && (iC ps e0 && iC ps e1)) = true) (ue : ja n b = true) (Tp : fH Nt b)
   (yI : ∀ z, fq (oJ P w0 mu n L' z) b) (FT : ∀ x, fU T S D L' b (qQ hp x) (x5 id hp e0 e1) = round x) (hL : ∀ st k, L id b st k = x6 hp e0 e1 round st k) : oJ P w0 mu n L r id b := by
 intro k Q hk c st a w h hn hv; rw [Bool.and_eq_true, Bool.and_eq_true] at hf; rw [hL] at hv; unfold x6 at hv; obtain ⟨x, hx, hv⟩ := Option.bind_eq_some_iff.1 hv; obtain ⟨z, hz, hv⟩ := Option.bind_eq_some_iff.1 hv; obtain ⟨c1, h1⟩ := CR h hs hf.1 hx; obtain ⟨m, hm⟩ := tn hz; refine wp_block ?_; refine wp_loop_ghost (fun m a w => ∃ x c, Rel w0 mu c (qQ hp x) a w ∧ a.tmps.size = n ∧ iter round m x = some z) m ⟨x, c1, h1, hn, hm⟩ ?_
 rintro m a w ⟨x, c, hR, hn, hi⟩
 cases m with
 | zero => cases hi
 | succ m =>
   unfold iter at hi
   cases hr : round x with
   | none => rw [hr] at hi; cases hi
   | some y =>
     rw [hr] at hi; refine D6 DG hD b ue (yI y) Tp (fun {e} {c2} {hM} {a2} {w2} g1 g2 g3 => ?_) hR hn ((FT x).trans hr)
     cases e with
     | normal =>
       obtain ⟨x2, q1, rfl⟩ := Option.map_eq_some_iff.1 g3; obtain ⟨c3, g4⟩ := CR g1 hs hf.1 q1; exact ⟨m, Nat.lt_succ_self m, x2, c3, g4, g2, hi⟩
     | exit m' =>
       obtain ⟨Xr, g5⟩ := aI g3; have Xr := Nat.eq_of_beq_eq_true Xr; subst Xr; obtain ⟨x2, q1, rfl⟩ := Option.map_eq_some_iff.1 g5; injection hi with hi; subst hi; obtain ⟨c3, g4⟩ := CR g1 hs hf.2.1 q1; show (if m' = m' then Q .normal a2 w2 else Q (.exit m') a2 w2); rw [if_pos rfl]; exact hk g4 g2 hv
     | ret =>
       obtain ⟨x2, q1, rfl⟩ := Option.map_eq_some_iff.1 g3; injection hi with hi; subst hi; obtain ⟨c3, g4⟩ := CR g1 hs hf.2.2 q1; exact hk g4 g2 hv
end Go.TM
namespace Go.TM
open Go Go.RowKit
section
variable {P : Program} {ops : Array Oper} {Q : Exit → Act → World → Prop} {md : Region.Mode} {ds : List Nat}
def rW (md : Region.Mode) (ops : Array Oper) (i : Nat) : Nat → Nat → Bool
 | 0, _ => false
 | fuel + 1, d => match ops[d]? with
   | some o => o.after.any fun e => Region.binds md e && (e.on == i || rW md ops i fuel e.on)
   | none => false
def rX (md : Region.Mode) (ops : Array Oper) (aQ : Array Bool) : Prop :=
 ∀ j oj, ops[j]? = some oj → aQ.getD j false = true → ∀ e ∈ oj.after, Region.binds md e = true → aQ.getD e.on false = true
theorem rX.set {aQ : Array Bool} {i : Nat} (h : rX md ops aQ) (hi : i ∈ Region.ready md ops aQ) : rX md ops (aQ.setIfInBounds i true) := by
 obtain ⟨_, oi, G9, n6⟩ := mem_ready.1 hi; intro j oj hj hl e he hb
 by_cases YL : i = j
 · subst YL; have : oj = oi := Option.some.inj (hj.symm.trans G9); subst this; exact getD_set_true (n6 e he hb)
 · rw [getD_set_ne false YL] at hl; exact getD_set_true (h j oj hj hl e he hb)
theorem rX.none (md : Region.Mode) (ops : Array Oper) (n : Nat) : rX md ops (Array.replicate n false) := by
 intro j oj _ hl; simp [Array.getD_eq_getD_getElem?, Array.getElem?_replicate] at hl
 split at hl <;> simp at hl
theorem xl {aQ : Array Bool} {i : Nat} (hc : rX md ops aQ) : ∀ (fuel d : Nat), rW md ops i fuel d = true → aQ.getD d false = true → aQ.getD i false = true
 | 0, _, h, _ => by simp [rW] at h
 | fuel + 1, d, h, hl => by
   unfold rW at h
   cases ho : ops[d]? with
   | none => rw [ho] at h; simp at h
   | some o =>
     rw [ho] at h; obtain ⟨e, he, h1⟩ := Array.any_eq_true'.1 h; simp only [Bool.and_eq_true, Bool.or_eq_true, beq_iff_eq] at h1; have hle := hc d o ho hl e he h1.1; rcases h1.2 with h2 | h2
     · rw [← h2]; exact hle
     · exact xl hc fuel e.on h2 hle
theorem zm {aQ : Array Bool} {i d fuel : Nat} (hc : rX md ops aQ) (hr : rW md ops i fuel d = true) (DH : aQ.getD i true = false) : d ∉ Region.ready md ops aQ := by
 intro hd; obtain ⟨_, o, ho, n6⟩ := mem_ready.1 hd; have hi : aQ.getD i false = true := by
   cases fuel with
   | zero => simp [rW] at hr
   | succ n =>
     unfold rW at hr; rw [ho] at hr; obtain ⟨e, he, h1⟩ := Array.any_eq_true'.1 hr; simp only [Bool.and_eq_true, Bool.or_eq_true, beq_iff_eq] at h1; have hle := n6 e he h1.1; rcases h1.2 with h2 | h2
     · rw [← h2]; exact hle
     · exact xl hc n e.on h2 hle
 rcases Nat.lt_or_ge i aQ.size with h' | h'
 · simp [h'] at DH hi; rw [DH] at hi
   cases hi
 · simp [Array.getElem?_eq_none h'] at DH
def oO (P : Program) (md : Region.Mode) (ops : Array Oper) (Q : Exit → Act → World → Prop) (ds : List Nat) : Nat → Array Bool → Act → World → Prop
 | 0, aQ, a, w => Region.ready md ops aQ = [] ∧ Q .normal a w
 | fuel + 1, aQ, a, w =>
   (Region.ready md ops aQ = [] → Q .normal a w) ∧
   ∀ i ∈ Region.ready md ops aQ, wpOp P ops Q i (fun a' w' => (i ∉ ds → iN w w') ∧ oO P md ops Q ds fuel (aQ.setIfInBounds i true) a' w') a w
theorem vS : ∀ (fuel : Nat) (aQ : Array Bool) (a : Act) (w : World), oO P md ops Q ds fuel aQ a w → wpAny P md ops Q fuel aQ a w
 | 0, _, _, _, h => h
 | fuel + 1, _, _, _, h => ⟨h.1, fun i hi => wpOp_mono (fun a' w' h' => vS fuel _ a' w' h'.2) (h.2 i hi)⟩
theorem CS {i : Nat} {oi : Oper} {v : Value} {w0 : World} (hi : ops[i]? = some oi) (Ez : ∀ (j : Nat) (o : Oper) cs b, ops[j]? = some o → o.op ≠ .select cs b)
   (hQ : ∀ c a w, Q (.panic c) (a.put oi.dst v) w → Q (.panic c) a w) (n : Nat) :
   ∀ (fuel : Nat) (aQ : Array Bool) (a : Act) (w : World),
     (∀ j oj, ops[j]? = some oj → j ≠ i → aQ.getD j true = false → (∀ e ∈ oj.after, Region.binds md e = true → e.on ≠ i) → oi.apart ops oj = true) →
     rX md ops aQ → (∀ d ∈ ds, aQ.getD d true = false → rW md ops i n d = true) →
     i ∈ Region.ready md ops aQ → YieldsIf P ops (iN w0) oi v a → iN w0 w →
     oO P md ops Q ds fuel (aQ.setIfInBounds i true) (a.put oi.dst v) w → oO P md ops Q ds (fuel + 1) aQ a w := by
 intro fuel
 induction fuel with
 | zero =>
   intro aQ a w _ _ _ hr hy hS H; refine ⟨fun h => (by rw [h] at hr; cases hr), fun j hj => ?_⟩
   by_cases CT : j = i
   · subst CT; exact hy.wpOp hi hS ⟨fun _ => iN.refl w, H⟩
   · have := ready_mono hj CT; rw [H.1] at this
     cases this
 | succ fuel ih =>
   intro aQ a w Ah hc hd hr hy hS H; refine ⟨fun h => (by rw [h] at hr; cases hr), fun j hj => ?_⟩
   by_cases CT : j = i
   · subst CT; exact hy.wpOp hi hS ⟨fun _ => iN.refl w, H⟩
   · have h1 := H.2 j (ready_mono hj CT); obtain ⟨FU, oj, OA, n6⟩ := mem_ready.1 hj; have H6 := (mem_ready.1 hr).1; have H3 : ∀ e ∈ oj.after, Region.binds md e = true → e.on ≠ i := fun e he hb heq => by
       have h1 := n6 e he hb; rw [heq] at h1; rcases Nat.lt_or_ge i aQ.size with h' | h'
       · simp [h'] at H6 h1; rw [H6] at h1; cases h1
       · simp [Array.getElem?_eq_none h'] at h1
     have hjd : j ∉ ds := fun hm => zm hc (hd j hm FU) H6 hj
     have h2 := wpOp_putIf OA (Ah j oj OA CT FU H3) (fun cs b => Ez i oi cs b hi) (fun cs b => Ez j oj cs b OA) hQ hy h1; have FV : ∀ k ok, ops[k]? = some ok → k ≠ i → (aQ.setIfInBounds j true).getD k true = false →
         (∀ e ∈ ok.after, Region.binds md e = true → e.on ≠ i) → oi.apart ops ok = true := fun k ok hk YM DH Jq => by
       refine Ah k ok hk YM ?_ Jq
       by_cases x7 : j = k
       · subst x7; exact FU
       · rw [getD_set_ne true x7] at DH; exact DH
     have FP : ∀ d ∈ ds, (aQ.setIfInBounds j true).getD d true = false → rW md ops i n d = true := fun d hm DH => by
       refine hd d hm ?_
       by_cases x7 : j = d
       · subst x7; exact FU
       · rw [getD_set_ne true x7] at DH; exact DH
     refine wpOp_mono (fun a' w' h3 => ⟨h3.2.1, ih (aQ.setIfInBounds j true) a' w' FV (hc.set hj) FP (ready_mono hr (Ne.symm CT)) h3.1 (hS.trans (h3.2.1 hjd)) ?_⟩) h2; rw [Array.setIfInBounds_comm _ _ CT]; exact h3.2.2
theorem FW {i : Nat} {oi : Oper} {v : Value} (hi : ops[i]? = some oi) (Ez : ∀ (j : Nat) (o : Oper) cs b, ops[j]? = some o → o.op ≠ .select cs b)
   (hQ : ∀ c a w, Q (.panic c) (a.put oi.dst v) w → Q (.panic c) a w) :
   ∀ (fuel : Nat) (aQ : Array Bool) (a : Act) (w : World),
     (∀ j oj, ops[j]? = some oj → j ≠ i → aQ.getD j true = false → (∀ e ∈ oj.after, Region.binds md e = true → e.on ≠ i) → oi.apart ops oj = true) →
     i ∈ Region.ready md ops aQ → Yields P ops oi v a →
     oO P md ops Q ds fuel (aQ.setIfInBounds i true) (a.put oi.dst v) w → oO P md ops Q ds (fuel + 1) aQ a w := by
 intro fuel
 induction fuel with
 | zero =>
   intro aQ a w _ hr hy H; refine ⟨fun h => (by rw [h] at hr; cases hr), fun j hj => ?_⟩
   by_cases CT : j = i
   · subst CT; exact (hy.yieldsIf (S := fun _ => True)).wpOp hi trivial ⟨fun _ => iN.refl w, H⟩
   · have := ready_mono hj CT; rw [H.1] at this
     cases this
 | succ fuel ih =>
   intro aQ a w Ah hr hy H; refine ⟨fun h => (by rw [h] at hr; cases hr), fun j hj => ?_⟩
   by_cases CT : j = i
   · subst CT; exact (hy.yieldsIf (S := fun _ => True)).wpOp hi trivial ⟨fun _ => iN.refl w, H⟩
   · have h1 := H.2 j (ready_mono hj CT); obtain ⟨FU, oj, OA, n6⟩ := mem_ready.1 hj; have H6 := (mem_ready.1 hr).1; have H3 : ∀ e ∈ oj.after, Region.binds md e = true → e.on ≠ i := fun e he hb heq => by
       have h1 := n6 e he hb; rw [heq] at h1; rcases Nat.lt_or_ge i aQ.size with h' | h'
       · simp [h'] at H6 h1; rw [H6] at h1; cases h1
       · simp [Array.getElem?_eq_none h'] at h1
     have h2 := wpOp_put OA (Ah j oj OA CT FU H3) (fun cs b => Ez i oi cs b hi) (fun cs b => Ez j oj cs b OA) hQ hy h1; have FV : ∀ k ok, ops[k]? = some ok → k ≠ i → (aQ.setIfInBounds j true).getD k true = false →
         (∀ e ∈ ok.after, Region.binds md e = true → e.on ≠ i) → oi.apart ops ok = true := fun k ok hk YM DH Jq => by
       refine Ah k ok hk YM ?_ Jq
       by_cases x7 : j = k
       · subst x7; exact FU
       · rw [getD_set_ne true x7] at DH; exact DH
     refine wpOp_mono (fun a' w' h3 => ⟨h3.2.1, ih (aQ.setIfInBounds j true) a' w' FV (ready_mono hr (Ne.symm CT)) h3.1 ?_⟩) h2; rw [Array.setIfInBounds_comm _ _ CT]; exact h3.2.2
end
end Go.TM
namespace Go.TM
open Go Go.RowKit
def wk (i : Nat) : List Nat → Bool
 | [] => false
 | x :: l => Nat.beq x i || wk i l
def Nu (ops : List Oper) (ls : List Nat) (j : Nat) : Bool :=
 match nth ops j with
 | some o => !wk j ls && o.after.toList.all fun e => !Region.binds .any e || wk e.on ls
 | none => false
def Ha (ops : Array Oper) (EA : List Oper) (n : Nat) (ls : List Nat) (i : Nat) : Bool :=
 match nth EA i with
 | some oi => (List.range n).all fun j => Nat.beq j i || (wk j ls || match nth EA j with
   | some oj => (oj.after.toList.any fun e => Region.binds .any e && Nat.beq e.on i) || oi.apart ops oj
   | none => true)
 | none => false
def CU (EA : List Oper) (n : Nat) (ls : List Nat) (i : Nat) : Bool := (List.range n).all fun j => Nat.beq j i || !Nu EA ls j
def Pl.cP : Pl → List Nat
 | .nil => []
 | .op i _ _ => [i]
 | .alt p q => p.cP ++ q.cP
def KD (EA : List Oper) (n : Nat) (ls hs : List Nat) : Bool := (List.range n).all fun j => !Nu EA ls j || wk j hs
def kH (ops : Array Oper) (EA : List Oper) (n : Nat) (ds : List Nat) : Bool → List Nat → Pl → Bool
 | al, ls, .nil => !al && (List.range n).all fun j => !Nu EA ls j
 | al, ls, .op i kd r => Nu EA ls i && ((match kd with
     | .any => !al && Ha ops EA n ls i
     | .take => !al && (Ha ops EA n ls i && ds.all fun d => wk d ls || rW .any ops i n d)
     | .one => al || CU EA n ls i
     | .last => (al || CU EA n ls i) && wk i ds) && kH ops EA n ds false (i :: ls) r)
 | al, ls, .alt p q => (al || KD EA n ls (p.cP ++ q.cP)) && (kH ops EA n ds true ls p && kH ops EA n ds true ls q)
def B8 : Pl → List Nat
 | .nil => []
 | .op i .last l => i :: B8 l
 | .op _ _ l => B8 l
 | .alt p q => B8 p ++ B8 q
def Pl.depth : Pl → Nat
 | .nil => 0
 | .op _ _ l => l.depth + 1
 | .alt p q => Nat.max p.depth q.depth
def AE (ops : Array Oper) (l : Pl) : Bool :=
 Region.noSelect ops && (Nat.ble l.depth ops.size && kH ops ops.toList ops.size (B8 l) false [] l)
structure LU (n : Nat) (ls : List Nat) (aQ : Array Bool) : Prop where
 size : aQ.size = n
 gf : ∀ j, aQ.getD j false = wk j ls
 gt : ∀ j, aQ.getD j true = (wk j ls || decide (n ≤ j))
theorem LU.push {n : Nat} {ls : List Nat} {aQ : Array Bool} (h : LU n ls aQ) {i : Nat} (hi : i < n) : LU n (i :: ls) (aQ.setIfInBounds i true) where
 size := by simp [h.size]
 gf := fun j => by
   unfold wk
   by_cases e : i = j
   · subst e; have : Nat.beq i i = true := Nat.beq_refl i; rw [this]; simp [h.size, hi]
   · rw [getD_set_ne false e, h.gf j]; have : Nat.beq i j = false := by
       cases hq : Nat.beq i j
       · rfl
       · exact absurd (Nat.eq_of_beq_eq_true hq) e
     simp [this]
 gt := fun j => by
   unfold wk
   by_cases e : i = j
   · subst e; simp [h.size, hi]
   · rw [getD_set_ne true e, h.gt j]; have : Nat.beq i j = false := by
       cases hq : Nat.beq i j
       · rfl
       · exact absurd (Nat.eq_of_beq_eq_true hq) e
     simp [this]
theorem LU.none (n : Nat) : LU n [] (Array.replicate n false) where
 size := by simp
 gf := fun j => by
   simp only [Array.getD_eq_getD_getElem?, Array.getElem?_replicate, wk]
   split <;> rfl
 gt := fun j => by
   simp only [Array.getD_eq_getD_getElem?, Array.getElem?_replicate, wk]
   split
   · rename_i h; simp; omega
   · rename_i h; simp; omega
theorem vz {ops : Array Oper} {ls : List Nat} {aQ : Array Bool} (h : LU ops.size ls aQ) (j : Nat) : Nu ops.toList ls j = true ↔ j ∈ Region.ready .any ops aQ := by
 rw [mem_ready]; unfold Nu; rw [gC, Array.getElem?_toList, h.gt j]
 cases ho : ops[j]? with
 | none => simp
 | some o =>
   have dC : j < ops.size := (Array.getElem?_eq_some_iff.1 ho).1; have hn : decide (ops.size ≤ j) = false := by simp; omega
   simp only [hn, Bool.or_false, Bool.and_eq_true, Bool.not_eq_true', List.all_eq_true, Array.mem_toList_iff, Bool.or_eq_true, Option.some.injEq, exists_eq_left', h.gf]
   constructor
   · rintro ⟨h0, h1⟩
     exact ⟨h0, fun e he hb => (h1 e he).resolve_left (by simp [hb])⟩
   · rintro ⟨h0, h1⟩
     refine ⟨h0, fun e he => ?_⟩
     cases hb : Region.binds .any e
     · exact .inl rfl
     · exact .inr (h1 e he hb)
theorem H7 {i j : Nat} (h : i ≠ j) : Nat.beq i j = false := by
 cases hq : Nat.beq i j
 · rfl
 · exact absurd (Nat.eq_of_beq_eq_true hq) h
theorem AF {ops : Array Oper} {ls : List Nat} {aQ : Array Bool} (h : LU ops.size ls aQ) {i : Nat} {oi : Oper} (hi : ops[i]? = some oi) (hf : Ha ops ops.toList ops.size ls i = true) :
   ∀ j oj, ops[j]? = some oj → j ≠ i → aQ.getD j true = false → (∀ e ∈ oj.after, Region.binds .any e = true → e.on ≠ i) → oi.apart ops oj = true := by
 intro j oj hj CT DH Jq; unfold Ha at hf; rw [gC, Array.getElem?_toList, hi] at hf; have dC : j < ops.size := (Array.getElem?_eq_some_iff.1 hj).1; have h1 := List.all_eq_true.1 hf j (List.mem_range.2 dC); rw [gC, Array.getElem?_toList, hj, H7 CT, Bool.false_or] at h1; rw [h.gt j, Bool.or_eq_false_iff] at DH; rw [DH.1, Bool.false_or, Bool.or_eq_true] at h1; rcases h1 with h1 | h1
 · obtain ⟨e, he, h2⟩ := List.any_eq_true.1 h1; rw [Bool.and_eq_true] at h2; exact absurd (Nat.eq_of_beq_eq_true h2.2) (Jq e (Array.mem_toList_iff.1 he) h2.1)
 · exact h1
theorem EB {ops : Array Oper} {ls : List Nat} {aQ : Array Bool} (h : LU ops.size ls aQ) {i : Nat} (hf : CU ops.toList ops.size ls i = true) : ∀ j ∈ Region.ready .any ops aQ, j = i := by
 intro j hj; have dC : j < ops.size := by
   obtain ⟨_, o, ho, _⟩ := mem_ready.1 hj; exact (Array.getElem?_eq_some_iff.1 ho).1
 have h1 := List.all_eq_true.1 hf j (List.mem_range.2 dC); rw [(vz h j).2 hj, Bool.not_true, Bool.or_false] at h1; exact Nat.eq_of_beq_eq_true h1
theorem xm {P : Program} {T : la} {S : ld} {w0 : World} {mu : Mu} {c : Cz} {st bf : St} {a : Act} {w : World} {ops : Array Oper} {o : Oper} {C : World → Prop} (h : Rel w0 mu c st a w)
   (hd : ∀ k, o.dst = some k → k < a.tmps.size) (hv : (xO T S ops.toList st o).val = some bf)
   (base : (Fe T S st o).val = some bf → ∃ v, (∀ w' : World, C w' → (execOp a.eval o).run P w' = .ok (.value v) w') ∧ Rel w0 mu c bf (a.put o.dst v) w) :
   ∃ v, YieldsIf P ops C o v a ∧ Rel w0 mu c bf (a.put o.dst v) w := by
 unfold xO at hv; unfold YieldsIf Region.wanted
 cases hg : o.guard with
 | none =>
   simp only [hg] at hv ⊢; obtain ⟨v, h1, h2⟩ := base hv; exact ⟨v, .inl ⟨trivial, h1⟩, h2⟩
 | some p =>
   obtain ⟨j, want⟩ := p; simp only [hg] at hv ⊢
   cases hj : (nth ops.toList j).bind (·.dst) with
   | none => simp [hj, N.val] at hv
   | some d =>
     simp only [hj] at hv
     split at hv
     · rename_i b J3; obtain ⟨h1, h2⟩ := vp h J3; rw [Aj (ops := ops) hj h1 h2]; have yes : (Fe T S (TM.bj st (some d) (.one (.bool b))) o).val = some bf → ∃ v, (∀ w' : World, C w' → (execOp a.eval o).run P w' = .ok (.value v) w') ∧ Rel w0 mu c bf (a.put o.dst v) w := fun e => base (by rwa [vq st d J3] at e)
       have no : (N.done (TM.bj (TM.bj st (some d) (.one (.bool b))) o.dst (.nb []))).val = some bf → Rel w0 mu c bf (a.put o.dst undef) w := by
         intro e; simp only [N.val, Option.some.injEq] at e; subst e; rw [vq st d J3]; exact h.bj (vr _ _ _) hd
       rcases uF hv with ⟨hb, wH⟩ | ⟨hb, wH⟩
       · subst hb
         cases want
         · exact ⟨undef, .inr ⟨rfl, rfl⟩, no wH⟩
         · obtain ⟨v, h3, h4⟩ := yes wH; exact ⟨v, .inl ⟨rfl, h3⟩, h4⟩
       · subst hb
         cases want
         · obtain ⟨v, h3, h4⟩ := yes wH; exact ⟨v, .inl ⟨rfl, h3⟩, h4⟩
         · exact ⟨undef, .inr ⟨rfl, rfl⟩, no wH⟩
     · rename_i J3; simp only [N.val, Option.some.injEq] at hv; subst hv; rw [vP (ops := ops) hj (Ak h J3)]; exact ⟨undef, .inr ⟨by cases want <;> rfl, rfl⟩, h.bj (vr _ _ _) hd⟩
     · simp [N.val] at hv
theorem Mv {P : Program} {T : la} (hT : gq P T) {S : ld} {w0 : World} {mu : Mu} {c : Cz} {st : St} {a : Act} {w : World} (h : Rel w0 mu c st a w) {o : Oper} (hk : kindOk S st o .take = true)
   {bf : St} (hv : (Fe T S st o).val = some bf) (hd : ∀ k, o.dst = some k → k < a.tmps.size) : ∃ v, (∀ w' : World, iN w w' → (execOp a.eval o).run P w' = .ok (.value v) w') ∧ Rel w0 mu c bf (a.put o.dst v) w := by
 unfold kindOk at hk; unfold Fe at hv
 cases ho : o.op with
 | load t x =>
   simp only [ho] at hv; obtain ⟨v, h1, h2⟩ := DM hT h (bH h x) hv hd; exact ⟨v, fun w' hw => by simp only [execOp, ho]; exact qL (h1 w' hw), h2⟩
 | _ => simp [ho] at hk
theorem xn {i : Nat} : (l : List Nat) → wk i l = true → i ∈ l
 | [], h => by cases h
 | x :: l, h => by
   unfold wk at h; rw [Bool.or_eq_true] at h; rcases h with h | h
   · rw [Nat.eq_of_beq_eq_true h]; exact List.mem_cons_self
   · exact List.mem_cons_of_mem _ (xn l h)
theorem uV {R : Type} {P : Program} {T : la} (hT : gq P T) (hE : wc P T) {S : ld} {w0 : World} {mu : Mu} {n : Nat} (DG : tj P T S w0 mu n) {ops : Array Oper} {ds : List Nat} {Q : Exit → Act → World → Prop} (hQ : ∀ c a w, ¬ Q (.panic c) a w)
   {k : St → Option R} {r : R} (hk : Next w0 mu n r k (Q .normal)) (OB : Region.noSelect ops = true) (ue : we n ops.toList = true) :
   (l : Pl) → (ls : List Nat) → (aQ : Array Bool) → (fuel : Nat) → {c : Cz} → {st : St} → {a : Act} → {w : World} → LU ops.size ls aQ → rX .any ops aQ → l.depth ≤ fuel →
     Rel w0 mu c st a w → a.tmps.size = n → rO T S ops.toList l st k = some r →
     (kH ops ops.toList ops.size ds false ls l = true → oO P .any ops Q ds fuel aQ a w) ∧
     (kH ops ops.toList ops.size ds true ls l = true → ∃ EC, fuel = EC + 1 ∧ ∀ i ∈ l.cP, i ∈ Region.ready .any ops aQ ∧ wpOp P ops Q i (fun a' w' => (i ∉ ds → iN w w') ∧ oO P .any ops Q ds EC (aQ.setIfInBounds i true) a' w') a w)
 | .nil, ls, aQ, fuel, c, st, a, w, hl, _, _, h, hn, hv => by
   refine ⟨fun hb => ?_, fun hb => by simp [kH] at hb⟩; unfold kH at hb; rw [Bool.and_eq_true] at hb; have hr : Region.ready .any ops aQ = [] := by
     refine List.eq_nil_iff_forall_not_mem.2 fun j hj => ?_
     obtain ⟨_, o, ho, _⟩ := mem_ready.1 hj; have dC : j < ops.size := (Array.getElem?_eq_some_iff.1 ho).1; have h1 := List.all_eq_true.1 hb.2 j (List.mem_range.2 dC); rw [(vz hl j).2 hj] at h1
     cases h1
   have hq := hk h hn hv
   cases fuel with
   | zero => exact ⟨hr, hq⟩
   | succ fuel => exact ⟨fun _ => hq, fun i hi => by rw [hr] at hi; cases hi⟩
 | .op i kd l, ls, aQ, 0, c, st, a, w, hl, _, hf, h, hn, hv => absurd hf (by simp [Pl.depth])
 | .op i kd l, ls, aQ, fuel + 1, c, st, a, w, hl, hs, hf, h, hn, hv => by
   have hf : l.depth ≤ fuel := Nat.le_of_succ_le_succ hf; have first : ∀ al, kH ops ops.toList ops.size ds al ls (.op i kd l) = true → Nu ops.toList ls i = true ∧ kH ops ops.toList ops.size ds false (i :: ls) l = true := by
     intro al hb; unfold kH at hb; rw [Bool.and_eq_true, Bool.and_eq_true] at hb; exact ⟨hb.1, hb.2.2⟩
   have step : Nu ops.toList ls i = true → kH ops ops.toList ops.size ds false (i :: ls) l = true → (kd = .one ∨ i ∈ ds) → wpOp P ops Q i (fun a' w' => (i ∉ ds → iN w w') ∧ oO P .any ops Q ds fuel (aQ.setIfInBounds i true) a' w') a w := by
     intro OC eU YN; have Nv := (vz hl i).1 OC; obtain ⟨_, o, G9, _⟩ := mem_ready.1 Nv; have dC : i < ops.size := (Array.getElem?_eq_some_iff.1 G9).1; unfold rO at hv; rw [gC, Array.getElem?_toList, G9] at hv; obtain ⟨LV, hv⟩ := aI hv; rw [N.fold_eq] at hv; obtain ⟨bf, h1, h2⟩ := Option.bind_eq_some_iff.1 hv; have FP : ∀ k, o.dst = some k → k < a.tmps.size := fun k hk => by rw [hn]; exact xS ue (by rw [Array.mem_toList_iff]; exact Array.mem_of_getElem? G9) k hk
     have next : ∀ {c' : Cz} {a' : Act} {w' : World}, Rel w0 mu c' bf a' w' → a'.tmps.size = n → oO P .any ops Q ds fuel (aQ.setIfInBounds i true) a' w' := fun hr HE =>
       (uV hT hE DG hQ hk OB ue l (i :: ls) _ fuel (hl.push dC) (hs.set Nv) hf hr HE h2).1 eU
     have hko : kd = .one → kindOk S st o .one = true := fun e => by rw [e] at LV; exact LV
     unfold wpOp; rw [G9]; rcases D5 DG h hn (fun k hk => by rw [← hn]; exact FP k hk) h1 with ⟨hw, rP⟩ | ⟨hw, uO⟩
     · simp only [hw, if_true]; refine .inl (Oper.wp_mono (fun a' w' ⟨⟨c', hr, mj⟩, Mi⟩ => ⟨fun FB => ?_, next hr (mj.trans hn)⟩) (rP Q)); rcases YN with e | e
       · exact Mi (hko e)
       · exact absurd e FB
     · simp only [hw, Bool.false_eq_true, if_false]; exact ⟨fun _ => iN.refl w, next uO ((qK _ _ _).trans hn)⟩
   refine ⟨fun hb => ?_, fun hb => ⟨fuel, rfl, fun j hj => ?_⟩⟩
   · obtain ⟨OC, eU⟩ := first _ hb; have Nv := (vz hl i).1 OC; unfold kH at hb; rw [Bool.and_eq_true, Bool.and_eq_true] at hb; obtain ⟨_, Hb, _⟩ := hb; have alone : CU ops.toList ops.size ls i = true → (kd = .one ∨ i ∈ ds) → oO P .any ops Q ds (fuel + 1) aQ a w := by
       intro hal YN; refine ⟨fun e => absurd Nv (by rw [e]; exact List.not_mem_nil), fun j hj => ?_⟩; have := EB hl hal j hj; subst this; exact step OC eU YN
     obtain ⟨_, o, G9, _⟩ := mem_ready.1 Nv; have dC : i < ops.size := (Array.getElem?_eq_some_iff.1 G9).1; unfold rO at hv; rw [gC, Array.getElem?_toList, G9] at hv; obtain ⟨LV, hv⟩ := aI hv; rw [N.fold_eq] at hv; obtain ⟨bf, h1, h2⟩ := Option.bind_eq_some_iff.1 hv; have FP : ∀ k, o.dst = some k → k < a.tmps.size := fun k hk => by rw [hn]; exact xS ue (by rw [Array.mem_toList_iff]; exact Array.mem_of_getElem? G9) k hk
     have next : ∀ {c' : Cz} {a' : Act} {w' : World}, Rel w0 mu c' bf a' w' → a'.tmps.size = n → oO P .any ops Q ds fuel (aQ.setIfInBounds i true) a' w' := fun hr HE =>
       (uV hT hE DG hQ hk OB ue l (i :: ls) _ fuel (hl.push dC) (hs.set Nv) hf hr HE h2).1 eU
     have Ez := Region.noSelect_spec OB
     cases kd with
     | one => exact alone (by simpa using Hb) (.inl rfl)
     | last =>
       simp only [Bool.false_or, Bool.and_eq_true] at Hb; exact alone Hb.1 (.inr (xn ds Hb.2))
     | any =>
       simp only [Bool.not_false, Bool.true_and] at Hb; obtain ⟨v, hy, uO⟩ := xm (P := P) (ops := ops) (C := fun _ => True) h FP h1 (fun e => by
         obtain ⟨v, g1, g2⟩ := GW hT hE h LV e FP; exact ⟨v, fun w' _ => g1 w', g2⟩)
       refine FW G9 Ez (fun c a w hq => absurd hq (hQ _ _ _)) fuel aQ a w (AF hl G9 Hb) Nv ?_ (next uO ((qK _ _ _).trans hn)); rcases hy with ⟨g1, g2⟩ | g
       · exact .inl ⟨g1, fun w' => g2 w' trivial⟩
       · exact .inr g
     | take =>
       simp only [Bool.not_false, Bool.true_and, Bool.and_eq_true] at Hb; obtain ⟨v, hy, uO⟩ := xm (P := P) (ops := ops) (C := iN w) h FP h1 (fun e => Mv hT h LV e FP); refine CS G9 Ez (fun c a w hq => absurd hq (hQ _ _ _)) ops.size fuel aQ a w (AF hl G9 Hb.1) hs (fun d hm DH => ?_) Nv hy (iN.refl w) (next uO ((qK _ _ _).trans hn)); have h3 := List.all_eq_true.1 Hb.2 d hm; rw [hl.gt d, Bool.or_eq_false_iff] at DH; rw [DH.1, Bool.false_or] at h3; exact h3
   · have hj : j = i := by simpa [Pl.cP] using hj
     subst hj; obtain ⟨OC, eU⟩ := first _ hb; refine ⟨(vz hl j).1 OC, step OC eU ?_⟩; unfold kH at hb; rw [Bool.and_eq_true, Bool.and_eq_true] at hb; obtain ⟨_, Hb, _⟩ := hb
     cases kd with
     | one => exact .inl rfl
     | last =>
       simp only [Bool.true_or, Bool.true_and] at Hb; exact .inr (xn ds Hb)
     | any => simp at Hb
     | take => simp at Hb
 | .alt p q, ls, aQ, fuel, c, st, a, w, hl, hs, hf, h, hn, hv => by
   have hv : both (rO T S ops.toList p st k) (rO T S ops.toList q st k) = some r := hv; obtain ⟨wH, HZ⟩ := Hu hv; have hf : Nat.max p.depth q.depth ≤ fuel := hf; have hp := (uV (ds := ds) hT hE DG hQ hk OB ue p ls aQ fuel hl hs (Nat.le_trans (Nat.le_max_left _ _) hf) h hn wH).2; have hq := (uV (ds := ds) hT hE DG hQ hk OB ue q ls aQ fuel hl hs (Nat.le_trans (Nat.le_max_right _ _) hf) h hn HZ).2; have cP : kH ops ops.toList ops.size ds true ls p = true → kH ops ops.toList ops.size ds true ls q = true → ∃ EC, fuel = EC + 1 ∧ ∀ i ∈ p.cP ++ q.cP, i ∈ Region.ready .any ops aQ ∧ wpOp P ops Q i (fun a' w' => (i ∉ ds → iN w w') ∧ oO P .any ops Q ds EC (aQ.setIfInBounds i true) a' w') a w := by
     intro h1 h2; obtain ⟨f1, e1, g1⟩ := hp h1; obtain ⟨f2, e2, g2⟩ := hq h2; have : f1 = f2 := by omega
     subst this; exact ⟨f1, e1, fun i hi => (List.mem_append.1 hi).elim (g1 i) (g2 i)⟩
   have parts : ∀ al, kH ops ops.toList ops.size ds al ls (.alt p q) = true → (al || KD ops.toList ops.size ls (p.cP ++ q.cP)) = true ∧ kH ops ops.toList ops.size ds true ls p = true ∧ kH ops ops.toList ops.size ds true ls q = true := by
     intro al hb; unfold kH at hb; rw [Bool.and_eq_true, Bool.and_eq_true] at hb; exact hb
   refine ⟨fun hb => ?_, fun hb => ?_⟩
   · obtain ⟨hc, h1, h2⟩ := parts _ hb; obtain ⟨f, rfl, g⟩ := cP h1 h2; have YO : ∀ j ∈ Region.ready .any ops aQ, j ∈ p.cP ++ q.cP := by
       intro j hj; have dC : j < ops.size := by
         obtain ⟨_, o, ho, _⟩ := mem_ready.1 hj; exact (Array.getElem?_eq_some_iff.1 ho).1
       rw [Bool.false_or] at hc; have h1 := List.all_eq_true.1 hc j (List.mem_range.2 dC); rw [(vz hl j).2 hj, Bool.not_true, Bool.false_or] at h1; exact xn _ h1
     refine ⟨fun e => ?_, fun j hj => (g j (YO j hj)).2⟩; have ik : ∃ i, i ∈ p.cP ++ q.cP := by
       have key : ∀ (l : Pl), kH ops ops.toList ops.size ds true ls l = true → ∃ i, i ∈ l.cP := by
         intro l
         induction l with
         | nil => intro h; simp [kH] at h
         | op i _ _ _ => intro _; exact ⟨i, by simp [Pl.cP]⟩
         | alt p q ih _ =>
           intro h; unfold kH at h; rw [Bool.and_eq_true, Bool.and_eq_true] at h; obtain ⟨i, hi⟩ := ih h.2.1; exact ⟨i, List.mem_append_left _ hi⟩
       obtain ⟨i, hi⟩ := key p h1; exact ⟨i, List.mem_append_left _ hi⟩
     obtain ⟨i, hi⟩ := ik; have := (g i hi).1; rw [e] at this
     cases this
   · obtain ⟨_, h1, h2⟩ := parts _ hb; exact cP h1 h2
theorem x8 {R : Type} {P : Program} {T : la} (hT : gq P T) (hE : wc P T) (hm : P.follows .mixedOrders = true) {S : ld} {D : mL} {w0 : World} {mu : Mu} {n : Nat} (DG : tj P T S w0 mu n) :
   sC R P T S D w0 mu n (fun id ops => AE ops (D id) = true) := by
 intro id ops Q k r gJ ue hk c st a w h hn hv; unfold AE at gJ; rw [Bool.and_eq_true, Bool.and_eq_true] at gJ; obtain ⟨OB, hlen, hb⟩ := gJ
 let Q' : Exit → Act → World → Prop := fun e a w => e = .normal ∧ Q .normal a w
 have key : (Code.region id ops true).wp P Q' a w := by
   refine wp_region_any hm (vS _ _ _ _ ((uV hT hE DG (ds := B8 (D id)) (Q := Q') (fun c a w hq => by cases hq.1) (fun {c st a w} g1 g2 g3 => ⟨rfl, hk g1 g2 g3⟩) OB ue (D id) [] _ ops.size (LU.none _) (rX.none _ _ _) (Nat.le_of_ble_eq_true hlen) h.drew hn hv).1 hb))
 exact Code.wp_mono (fun e a w hq => by obtain ⟨rfl, hq⟩ := hq; exact hq) key
end Go.TM
namespace Go.TM
open Go Go.RowKit
abbrev Nw : RT → Type → Type
 | .nil, R => R
 | .cons t r, R => den t → Nw r R
abbrev xN {R : Type} : (r : RT) → Nw r R → ar r → R
 | .nil, f, _ => f
 | .cons _ r, f, x => xN r (f x.1) x.2
def fR : mL := fun _ => .nil
def RH {R : Type} : p9 R := fun _ _ _ _ => none
def KE (f : Func) : Code := match f.body with | some c => c | none => .skip
def nn : Nat → List (Option AP)
 | 0 => []
 | n + 1 => none :: nn n
structure Rec where
 size : Nat
 agg : Bool
 ch : List (Nat × Nat)
 row : Option RT
 elem : Option (RT × Nat)
 kind : Option Ty
 jc : List Nat
 eq : Bool
 dp : Bool := false
 cap : Bool := false
inductive Tr where
 | leaf
 | node (l : Tr) (k : Nat) (v : Rec) (r : Tr)
def Tr.flat : Tr → Tr
 | .leaf => .leaf
 | .node l k v r => .node l.flat k { v with dp := false } r.flat
def Tr.uu (l : List Nat) : Tr → Tr
 | .leaf => .leaf
 | .node a k v b => .node (a.uu l) k { v with cap := l.any (Nat.beq k) } (b.uu l)
def Tr.find : Tr → Nat → Option Rec
 | .leaf, _ => none
 | .node l k v r, t => bif Nat.beq t k then some v else bif Nat.blt t k then l.find t else r.find t
def Tr.all (p : Nat → Rec → Bool) : Tr → Bool
 | .leaf => true
 | .node l k v r => l.all p && (p k v && r.all p)
theorem Tr.xo {p : Nat → Rec → Bool} : (tr : Tr) → tr.all p = true → ∀ {t v}, tr.find t = some v → p t v = true
 | .leaf, _, _, _, h => by cases h
 | .node l k v r, h, t, u, hf => by
   unfold Tr.all at h; rw [Bool.and_eq_true, Bool.and_eq_true] at h; unfold Tr.find at hf
   cases hb : Nat.beq t k with
   | true =>
     rw [hb] at hf; injection hf with hf; subst hf; rw [Nat.eq_of_beq_eq_true hb]; exact h.2.1
   | false =>
     rw [hb] at hf
     cases hl : Nat.blt t k with
     | true => rw [hl] at hf; exact Tr.xo l h.1 hf
     | false => rw [hl] at hf; exact Tr.xo r h.2.2 hf
def og (tr : Tr) : la where
 cells t := (tr.find t).map (·.size)
 agg t := match tr.find t with | some r => r.agg | none => false
 off t f := match tr.find t with | some r => (nth r.ch f).map (·.1) | none => none
 Sz t f := match tr.find t with | some r => (nth r.ch f).map (·.2) | none => none
 row t := match tr.find t with | some r => r.row | none => none
 elem t := match tr.find t with | some r => r.elem | none => none
 nb _ := none
 kind t := match tr.find t with | some r => r.kind | none => none
 one t f := match tr.find t with | some r => r.jc.any (Nat.beq f) | none => false
 eq t := match tr.find t with | some r => r.eq | none => false
 dp t := match tr.find t with | some r => r.dp | none => false
 cap t := match tr.find t with | some r => r.cap | none => false
def mS : RT → List Value → Bool
 | .nil, [] => true
 | .cons (.int k) r, .int l n :: vs => decide (k = l) && decide (n = 0) && mS r vs
 | .cons .bool r, .bool b :: vs => !b && mS r vs
 | .cons .str r, .string s :: vs => (match s.data.toList with | [] => true | _ => false) && mS r vs
 | .cons (.sl _) r, .slice none 0 0 :: vs => mS r vs
 | _, _ => false
theorem sL : (r : RT) → (vs : List Value) → mS r vs = true → iV r vs
 | .nil, [], _ => rfl
 | .nil, _ :: _, h => by simp [mS] at h
 | .cons t r, [], h => by cases t <;> simp [mS] at h
 | .cons t r, v :: vs, h => by
   cases t with
   | int k =>
     cases v <;> try (simp [mS] at h; done)
     rename_i l n; simp only [mS, Bool.and_eq_true, decide_eq_true_eq] at h; obtain ⟨⟨rfl, rfl⟩, h⟩ := h; exact ⟨vs, rfl, sL r vs h⟩
   | bool =>
     cases v <;> try (simp [mS] at h; done)
     rename_i b; simp only [mS, Bool.and_eq_true, Bool.not_eq_true'] at h; obtain ⟨rfl, h⟩ := h; exact ⟨vs, rfl, sL r vs h⟩
   | str =>
     cases v <;> try (simp [mS] at h; done)
     rename_i s; simp only [mS, Bool.and_eq_true] at h; obtain ⟨h1, h⟩ := h; refine ⟨vs, ?_, sL r vs h⟩; obtain ⟨d⟩ := s; obtain ⟨d⟩ := d
     cases d with
     | nil => rfl
     | cons _ _ => simp at h1
   | sl q =>
     cases v <;> try (simp [mS] at h; done)
     rename_i a n m
     cases a with
     | some _ => simp [mS] at h
     | none => cases n with
       | succ _ => simp [mS] at h
       | zero => cases m with
         | succ _ => simp [mS] at h
         | zero =>
           have h : mS r vs = true := h; exact ⟨vs, rfl, sL r vs h⟩
def rz {α : Type} (o : Option α) (p : α → Bool) : Bool := match o with | some x => p x | none => false
theorem fI {α : Type} {o : Option α} {p : α → Bool} (h : rz o p = true) : ∃ x, o = some x ∧ p x = true := by
 cases o with
 | none => cases h
 | some x => exact ⟨x, rfl, h⟩
def tq (P : Program) : List Field → List (Nat × Nat) → Bool
 | [], [] => true
 | f :: fs, (o, s) :: ps => Nat.beq f.offset o && (rz (P.info? f.type) (fun i => Nat.beq i.size s) && (Nat.blt 0 s && tq P fs ps))
 | _, _ => false
theorem wm {P : Program} : (fs : List Field) → (ps : List (Nat × Nat)) → tq P fs ps = true →
   fs.mapM (fun f => (P.info? f.type).map fun i => (f.offset, i.size)) = some ps ∧ ∀ (k : Nat) p, ps[k]? = some p → ∃ BG n, fs[k]? = some BG ∧ BG.offset = p.1 ∧ (P.info? BG.type).map (·.size) = some (n + 1)
 | [], [], _ => ⟨rfl, fun k p h => by simp at h⟩
 | [], _ :: _, h => by simp [tq] at h
 | _ :: _, [], h => by simp [tq] at h
 | f :: fs, (o, s) :: ps, h => by
   unfold tq at h; rw [Bool.and_eq_true, Bool.and_eq_true, Bool.and_eq_true] at h; obtain ⟨h1, h2, h3, h4⟩ := h; obtain ⟨i, hi, Xs⟩ := fI h2; have h1 := Nat.eq_of_beq_eq_true h1; have Xs := Nat.eq_of_beq_eq_true Xs; obtain ⟨g1, g2⟩ := wm fs ps h4; refine ⟨by simp [List.mapM_cons, hi, g1, h1, Xs], fun k p hp => ?_⟩
   cases k with
   | zero =>
     simp at hp; subst hp; have h3 : 0 < s := Nat.le_of_ble_eq_true h3; exact ⟨f, s - 1, rfl, h1, by rw [hi]; simp [Xs]; omega⟩
   | succ k => exact g2 k p (by simpa using hp)
def ED (P : Program) (t : Nat) : Ty → Bool
 | .int k => rz (P.underlying t) fun | .int l => decide (k = l) | _ => false
 | .bool => rz (P.underlying t) fun | .bool => true | _ => false
 | .str => rz (P.underlying t) fun | .string => true | _ => false
 | .sl _ => false
def CW (P : Program) (t : Nat) (r : Rec) : Bool :=
 rz (P.info? t) (fun i => Nat.beq i.size r.size && (match r.row with | some q => rz i.zero (fun z => mS q z.cells.toList) | none => true)) &&
 (rz (P.underlying t) (fun d => (d.isRow == r.agg) && (bif r.agg then true else Nat.beq r.size 1) && (match d with | .struct fs => bif r.agg then tq P fs.toList r.ch else Nat.beq r.ch.length 0 | _ => !r.agg && Nat.beq r.ch.length 0)
     && (match r.elem with | some (q, b) => (match d with | .slice e => rz (P.info? e) (fun i => Nat.beq i.size q.width && (Nat.blt 0 q.width && (Nat.beq i.bytes b && (Nat.blt 0 b && rz i.zero (fun z => mS q z.cells.toList))))) | _ => false) | none => true)) &&
 ((match r.kind with | some k => ED P t k | none => true) && (match r.elem with | some (.cons (.int .u8) .nil, _) => rz (P.underlying t) (fun d => match d with | .slice e => ED P e (.int .u8) | _ => false) | _ => true)))
def Nx (P : Program) (t : Nat) (l : List Nat) : Bool := l.all fun f => rz (P.underlying t) fun d => match d with | .struct fs => rz fs[f]? (fun BG => rz (P.underlying BG.type) fun e => !e.isRow) | _ => false
def xp (P : Program) (t : Nat) (r : Rec) : Bool := CW P t r && Nx P t r.jc
theorem rY {P : Program} {tr : Tr} (h : tr.all (xp P) = true) : gq P (og tr) := by
 have Tw : ∀ {t r}, tr.find t = some r → xp P t r = true := fun hf => Tr.xo tr h hf
 have get : ∀ {t r}, tr.find t = some r → CW P t r = true := fun hf => (Bool.and_eq_true _ _ ▸ Tw hf).1
 have base : ∀ {t r}, tr.find t = some r → (∃ i, P.info? t = some i ∧ i.size = r.size ∧ ∀ q, r.row = some q → ∃ z, i.zero = some z ∧ iV q z.cells.toList) ∧
     (∃ d, P.underlying t = some d ∧ d.isRow = r.agg ∧ (r.agg = false → r.size = 1) ∧ (r.ch ≠ [] ∨ r.agg = true → ∃ fs, d = .struct fs ∧ tq P fs.toList r.ch = true) ∧
       ∀ q b, r.elem = some (q, b) → ∃ e i z, d = .slice e ∧ P.info? e = some i ∧ i.size = q.width ∧ 0 < q.width ∧ i.bytes = b ∧ 0 < b ∧ i.zero = some z ∧ iV q z.cells.toList) ∧
     ∀ k, r.kind = some k → ED P t k = true := by
   intro t r hf; have h1 := get hf; unfold CW at h1; rw [Bool.and_eq_true, Bool.and_eq_true, Bool.and_eq_true] at h1; obtain ⟨h1, h2, h3, _⟩ := h1; obtain ⟨i, hi, h4⟩ := fI h1; rw [Bool.and_eq_true] at h4; obtain ⟨d, hd, h5⟩ := fI h2; rw [Bool.and_eq_true, Bool.and_eq_true, Bool.and_eq_true] at h5; obtain ⟨⟨⟨g1, g2⟩, g3⟩, g4⟩ := h5; refine ⟨⟨i, hi, Nat.eq_of_beq_eq_true h4.1, fun q hq => ?_⟩, ⟨d, hd, by simpa using g1, fun G6 => ?_, fun ik => ?_, fun q b he => ?_⟩, fun k hk => ?_⟩
   · have h6 := h4.2; rw [hq] at h6; obtain ⟨z, hz, h7⟩ := fI h6; exact ⟨z, hz, sL q _ h7⟩
   · rw [G6] at g2; exact Nat.eq_of_beq_eq_true g2
   · cases G6 : r.agg with
     | true =>
       rw [G6] at g3
       cases d with
       | struct fs => exact ⟨fs, rfl, g3⟩
       | _ => simp at g3
     | false =>
       rw [G6] at g3; rcases ik with ik | ik
       · have : Nat.beq r.ch.length 0 = true := by
           cases d with
           | struct fs => exact g3
           | _ => simpa using g3
         exact absurd (List.length_eq_zero_iff.1 (Nat.eq_of_beq_eq_true this)) ik
       · rw [G6] at ik; cases ik
   · rw [he] at g4
     cases d with
     | slice e =>
       obtain ⟨i, h6, h7⟩ := fI g4; rw [Bool.and_eq_true, Bool.and_eq_true, Bool.and_eq_true, Bool.and_eq_true] at h7; obtain ⟨k1, k2, k3, k4, k5⟩ := h7; obtain ⟨z, hz, h8⟩ := fI k5; exact ⟨e, i, z, rfl, h6, Nat.eq_of_beq_eq_true k1, Nat.le_of_ble_eq_true k2, Nat.eq_of_beq_eq_true k3, Nat.le_of_ble_eq_true k4, hz, sL q _ h8⟩
     | _ => cases g4
   · rw [hk] at h3; exact h3
 have look : ∀ {α : Type} {t : Nat} {g : Rec → Option α} {x : α}, (match tr.find t with | some r => g r | none => none) = some x → ∃ r, tr.find t = some r ∧ g r = some x := by
   intro α t g x hx
   cases hf : tr.find t with
   | none => rw [hf] at hx; cases hx
   | some r => rw [hf] at hx; exact ⟨r, rfl, hx⟩
 have Tx : ∀ {t : Nat} {g : Rec → Bool}, (match tr.find t with | some r => g r | none => false) = true → ∃ r, tr.find t = some r ∧ g r = true := by
   intro t g hx
   cases hf : tr.find t with
   | none => rw [hf] at hx; cases hx
   | some r => rw [hf] at hx; exact ⟨r, rfl, hx⟩
 exact {
   cells := fun t n ht => by
     obtain ⟨r, hf, rfl⟩ := Option.map_eq_some_iff.1 ht; obtain ⟨⟨i, hi, hs, _⟩, _⟩ := base hf; rw [hi]; simp [hs]
   agg := fun t n ht => by
     obtain ⟨r, hf, rfl⟩ := Option.map_eq_some_iff.1 ht; obtain ⟨_, ⟨d, hd, h1, h2, _⟩, _⟩ := base hf; have e : (og tr).agg t = r.agg := by show (match tr.find t with | some r => r.agg | none => false) = _; rw [hf]
     exact ⟨d, hd, h1.trans e.symm, fun h => h2 (e ▸ h)⟩
   off := fun t f k ht => by
     obtain ⟨r, hf, hk⟩ := look ht; obtain ⟨p, hp, rfl⟩ := Option.map_eq_some_iff.1 hk; obtain ⟨_, ⟨d, hd, _, _, h3, _⟩, _⟩ := base hf; rw [gC] at hp; obtain ⟨fs, rfl, YP⟩ := h3 (.inl (by intro e; rw [e] at hp; simp at hp)); obtain ⟨BG, n, g1, g2, g3⟩ := (wm fs.toList r.ch YP).2 f p hp; exact ⟨fs, BG, n, hd, by simpa using g1, g2, g3⟩
   bld := fun t ht => by
     obtain ⟨r, hf, G6⟩ := Tx (g := fun r => r.agg) ht; obtain ⟨_, ⟨d, hd, _, _, h3, _⟩, _⟩ := base hf; obtain ⟨fs, rfl, YP⟩ := h3 (.inr G6); refine ⟨fs, r.ch, hd, (wm fs.toList r.ch YP).1, fun f o s ho hs => ?_⟩; have ho : (match tr.find t with | some r => (nth r.ch f).map (·.1) | none => none) = some o := ho; have hs : (match tr.find t with | some r => (nth r.ch f).map (·.2) | none => none) = some s := hs; rw [hf] at ho hs; obtain ⟨p, hp, rfl⟩ := Option.map_eq_some_iff.1 ho; obtain ⟨p', m9, rfl⟩ := Option.map_eq_some_iff.1 hs; rw [hp] at m9; injection m9 with e; subst e; rw [gC] at hp; exact hp
   row := fun t q ht => by
     obtain ⟨r, hf, hk⟩ := look (g := fun r => r.row) ht; obtain ⟨⟨i, hi, _, h1⟩, _⟩ := base hf; obtain ⟨z, hz, HH⟩ := h1 q hk; exact ⟨i, z, hi, hz, HH⟩
   elem := fun t q b ht => by
     obtain ⟨r, hf, hk⟩ := look (g := fun r => r.elem) ht; obtain ⟨_, ⟨d, hd, _, _, _, h4⟩, _⟩ := base hf; obtain ⟨e, i, z, rfl, h5⟩ := h4 q b hk; exact ⟨e, i, z, hd, h5⟩
   u8 := fun t e b ht hu => by
     obtain ⟨r, hf, hk⟩ := look (g := fun r => r.elem) ht; have h1 := get hf; unfold CW at h1; rw [Bool.and_eq_true, Bool.and_eq_true, Bool.and_eq_true] at h1; have h2 := h1.2.2.2; rw [hk] at h2; obtain ⟨d, hd, h3⟩ := fI h2; rw [hu] at hd; injection hd with hd; subst hd; obtain ⟨d2, Xt, h4⟩ := fI h3; rw [Xt]
     cases d2 <;> simp at h4
     rw [← h4]
   one := fun t f ht => by
     have ht : (match tr.find t with | some r => r.jc.any (Nat.beq f) | none => false) = true := ht
     cases hf : tr.find t with
     | none => rw [hf] at ht; cases ht
     | some r =>
       rw [hf] at ht; have h2 : Nx P t r.jc = true := (Bool.and_eq_true _ _ ▸ Tw hf).2; obtain ⟨g, hg, hb⟩ := List.any_eq_true.1 ht; have hb := Nat.eq_of_beq_eq_true hb; subst hb; have h3 := List.all_eq_true.1 h2 f hg; obtain ⟨d, hd, h4⟩ := fI h3
       cases d with
       | struct fs =>
         obtain ⟨BG, YQ, h5⟩ := fI h4; obtain ⟨e, he, h6⟩ := fI h5; exact ⟨fs, BG, e, hd, YQ, he, by simpa using h6⟩
       | _ => cases h4
   kind := fun t y ht => by
     obtain ⟨r, hf, hk⟩ := look (g := fun r => r.kind) ht; have h1 := (base hf).2.2 y hk
     cases y with
     | int k =>
       obtain ⟨d, hd, h2⟩ := fI h1; refine ⟨d, hd, ?_⟩
       cases d <;> simp at h2
       rw [h2]; rfl
     | bool =>
       obtain ⟨d, hd, h2⟩ := fI h1; refine ⟨d, hd, ?_⟩
       cases d <;> simp at h2
       rfl
     | str =>
       obtain ⟨d, hd, h2⟩ := fI h1; refine ⟨d, hd, ?_⟩
       cases d <;> simp at h2
       rfl
     | sl _ => cases h1 }
end Go.TM
