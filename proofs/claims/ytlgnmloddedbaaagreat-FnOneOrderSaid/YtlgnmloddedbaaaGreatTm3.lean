/- A machine over trees: an evaluator of the code, and that what it finds is so; part 3. -/
import Derived.Test.YtlgnmloddedbaaaGreatTm2
import Derived.Laws.Sem
import Derived.Deep.LoopGhost
import Derived.OrdersHeld
import Derived.KernelRfl
set_option linter.unusedSimpArgs false
set_option linter.unusedVariables false
namespace Go.TM
open Go Go.RowKit
theorem Fj {st : St} {own : Bool} : (cs : List CV) → {os : List OV} → {u : List (Option Lb)} → {r : List (Nat × Nat)} → eF st own cs = some (os, u, r) → ∀ l ∈ bF u, l ∈ cs.filterMap fun x => match x with | .ref a j _ _ => some (Lb.sp a j) | _ => none
 | [], _, _, _, h => by
   simp only [eF, Option.some.injEq, Prod.mk.injEq] at h; obtain ⟨_, rfl, _⟩ := h; simp [bF]
 | x :: cs, os, u, r, h => by
   unfold eF at h
   cases hc : fy st own x with
   | none => simp [hc] at h
   | some p =>
     obtain ⟨o, u1, r1⟩ := p
     cases hq : eF st own cs with
     | none => simp [hc, hq] at h
     | some q =>
       obtain ⟨zn, us, rs⟩ := q; simp only [hc, hq, Option.some.injEq, Prod.mk.injEq] at h; obtain ⟨_, rfl, _⟩ := h; intro l hl; rw [gk] at hl; rcases List.mem_cons.1 hl with hl | hl
       · refine List.mem_filterMap.2 ⟨x, List.mem_cons_self, ?_⟩
         cases x with
         | ref a j g w =>
           unfold fy at hc; simp only at hc
           cases hA : aQ st a j g with
           | none => simp [hA] at hc
           | some A =>
             simp only [hA] at hc
             cases hm : A.md.E2 with
             | true => simp [hm] at hc
             | false =>
             simp only [hm, cond_false] at hc
             cases hb : (own && A.own && (A.md.is .sh || w.isFull)) <;> simp only [hb, cond_true, cond_false, Option.some.injEq, Prod.mk.injEq] at hc <;> obtain ⟨_, rfl, _⟩ := hc
             · cases hl
             · exact hl.symm
         | oU a j g e i k q ys =>
           unfold fy at hc; simp only at hc
           cases hA : aQ st a j g with
           | none => simp [hA] at hc
           | some A =>
             simp only [hA] at hc; obtain ⟨_, hc⟩ := aH hc; simp only [Option.some.injEq, Prod.mk.injEq] at hc; obtain ⟨_, rfl, _⟩ := hc
             cases hl
         | lf q y off => obtain ⟨_, rfl, _⟩ := vI hc; cases hl
         | sn q y off => obtain ⟨_, rfl, _⟩ := sL hc; cases hl
         | _ =>
           simp only [fy, Option.some.injEq, Prod.mk.injEq, reduceCtorEq] at hc
           all_goals (obtain ⟨_, rfl, _⟩ := hc; cases hl)
       · have := Fj cs hq l (gk.2 hl); obtain ⟨y, h1, h2⟩ := List.mem_filterMap.1 this; exact List.mem_filterMap.2 ⟨y, List.mem_cons_of_mem _ h1, h2⟩
theorem JQ {st : St} {m : Pm} {v : V} {av : AV} {u q : List Lb} {r : List (Nat × Nat)} (h : dO st m v = some (av, u, q, r)) : ∀ l ∈ u, (l ∈ q ∧ ∃ s j, l = .sp s j) ∨ l ∈ Ay m v := by
 have single : ∀ own cs, (match eF st own cs with | some (os, u, r) => some (AV.val false os, bF u, bF u, r) | none => none) = some (av, u, q, r) → ∀ l ∈ u, (l ∈ q ∧ ∃ s j, l = .sp s j) ∨ l ∈ Ay m v := by
   intro own cs h
   cases hq : eF st own cs with
   | none => simp [hq] at h
   | some p =>
     obtain ⟨os, us, rs⟩ := p; simp only [hq, Option.some.injEq, Prod.mk.injEq] at h; obtain ⟨_, rfl, rfl, _⟩ := h; exact fun l hl => .inl ⟨hl, wQ cs hq l hl⟩
 cases v with
 | mz _ => simp [dO] at h
 | agg cs =>
   have other : (match eF st m.nz cs with | some (os, u, r) => some (AV.val true os, bF u, bF u, r) | none => none) = some (av, u, q, r) → ∀ l ∈ u, (l ∈ q ∧ ∃ s j, l = .sp s j) ∨ l ∈ Ay m (.agg cs) := by
     intro h
     cases hq : eF st m.nz cs with
     | none => simp [hq] at h
     | some p =>
       obtain ⟨os, us, rs⟩ := p; simp only [hq, Option.some.injEq, Prod.mk.injEq] at h; obtain ⟨_, rfl, rfl, _⟩ := h; exact fun l hl => .inl ⟨hl, wQ cs hq l hl⟩
   unfold dO at h
   cases m with
   | shr => exact other h
   | own => exact other h
   | pick _ => exact other h
   | io => exact other h
   | bB =>
     simp only at h
     cases hq : eF st true cs with
     | none => simp [hq] at h
     | some p =>
       obtain ⟨os, us, rs⟩ := p; simp only [hq] at h; obtain ⟨_, h1⟩ := aH h; simp only [Option.some.injEq, Prod.mk.injEq] at h1; obtain ⟨_, rfl, _, _⟩ := h1; exact fun l hl => .inr (Fj cs hq l hl)
 | one cx =>
   cases cx with
   | ptr b g off =>
     unfold dO at h; simp only at h
     cases hb : di st b g with
     | none => simp [hb] at h
     | some cs =>
       simp only [hb] at h
       cases hq : eF st true cs with
       | none => simp [hq] at h
       | some p =>
         obtain ⟨os, us, rs⟩ := p; simp only [hq] at h; obtain ⟨_, h1⟩ := aH h; simp only [Option.some.injEq, Prod.mk.injEq] at h1; obtain ⟨_, rfl, rfl, _⟩ := h1; intro l hl; rcases List.mem_cons.1 hl with rfl | hl
         · exact .inr (by simp [Ay])
         · exact .inl ⟨hl, wQ cs hq l hl⟩
   | ref s j g vw =>
     unfold dO at h
     cases m with
     | shr => exact single _ _ h
     | own => exact single _ _ h
     | pick _ => exact single _ _ h
     | bB => exact single _ _ h
     | io =>
       cases vw with
       | full =>
         cases hA : aQ st s j g with
         | none => simp [hA] at h
         | some A =>
           simp only [hA] at h; obtain ⟨_, h1⟩ := aH h; simp only [Option.some.injEq, Prod.mk.injEq] at h1; obtain ⟨_, rfl, _, _⟩ := h1; exact fun l hl => .inr (by simpa [Ay] using hl)
       | «from» _ => simp at h
       | sub _ _ => simp at h
   | _ =>
     unfold dO at h; simp only at h
     split at h
     · rename_i os us rs hq; simp only [Option.some.injEq, Prod.mk.injEq] at h; obtain ⟨_, rfl, rfl, _⟩ := h; exact fun l hl => .inl ⟨hl, wQ _ hq l hl⟩
     · cases h
theorem C6 {st : St} : (ms : List (Pm × V)) → {dt : List AV} → {u q : List Lb} → {r : List (Nat × Nat)} → iI st ms = some (dt, u, q, r) → ∀ l ∈ u, (l ∈ q ∧ ∃ s j, l = .sp s j) ∨ ∃ m ∈ ms, l ∈ Ay m.1 m.2
 | [], _, _, _, _, h => by
   simp only [iI, Option.some.injEq, Prod.mk.injEq] at h; obtain ⟨_, rfl, _⟩ := h; simp
 | (m, v) :: ms, dt, u, q, r, h => by
   unfold iI at h
   cases h1 : dO st m v with
   | none => simp [h1] at h
   | some p1 =>
     obtain ⟨av, u1, q1, r1⟩ := p1
     cases h2 : iI st ms with
     | none => simp [h1, h2] at h
     | some p2 =>
       obtain ⟨RG, u2, q2, r2⟩ := p2; simp only [h1, h2, Option.some.injEq, Prod.mk.injEq] at h; obtain ⟨rfl, rfl, rfl, rfl⟩ := h; intro l hl; rcases List.mem_append.1 hl with hl | hl
       · rcases JQ h1 l hl with ⟨h3, h4⟩ | h3
         · exact .inl ⟨List.mem_append_left _ h3, h4⟩
         · exact .inr ⟨(m, v), List.mem_cons_self, h3⟩
       · rcases C6 ms h2 l hl with ⟨h3, h4⟩ | ⟨m', h3, h4⟩
         · exact .inl ⟨List.mem_append_right _ h3, h4⟩
         · exact .inr ⟨m', List.mem_cons_of_mem _ h3, h4⟩
theorem By {st : St} : (ms : List (Pm × V)) → {dt : List AV} → {u q : List Lb} → {r : List (Nat × Nat)} → iI st ms = some (dt, u, q, r) → ∀ (k : Nat) (m : Pm × V) (av : AV), ms[k]? = some m → dt[k]? = some av → OW st m av
 | [], _, _, _, _, _ => by intro k m av hm; simp at hm
 | (m, v) :: ms, dt, u, q, r, h => by
   unfold iI at h
   cases h1 : dO st m v with
   | none => simp [h1] at h
   | some p1 =>
     obtain ⟨av, u1, q1, r1⟩ := p1
     cases h2 : iI st ms with
     | none => simp [h1, h2] at h
     | some p2 =>
       obtain ⟨RG, u2, q2, r2⟩ := p2; simp only [h1, h2, Option.some.injEq, Prod.mk.injEq] at h; obtain ⟨rfl, rfl, rfl, rfl⟩ := h; intro k m' Lu hm HZ
       cases k with
       | zero => simp at hm HZ; subst hm HZ; exact ⟨u1, q1, r1, h1⟩
       | succ k => exact By ms h2 k m' Lu (by simpa using hm) (by simpa using HZ)
theorem MC (a b c : Pm) (l : List V) : (uS a b c l).map (·.2) = l := by
 rcases l with _ | ⟨x, _ | ⟨y, _ | ⟨z, l⟩⟩⟩ <;> simp [uS, Function.comp_def]
theorem Cz.xL : (m : List (Nat × Nat)) → (c : Cz) → {b : Nat} → {l : Lb} → c.own b = some l → (∀ p ∈ m, l ≠ .sp p.1 p.2) → (c.drop m).own b = some l
 | [], _, _, _, h, _ => h
 | (s, j) :: m, c, b, l, h, hm => Cz.xL m (c.drop1 s j) (Cz.qF h (hm (s, j) List.mem_cons_self)) (fun p hp => hm p (List.mem_cons_of_mem _ hp))
def l5 (P : Program) (S : ju) : Prop :=
 ∀ f a b c Bk, S f = some (a, b, c, Bk) → FnOk P f Bk ∧ ∃ fn, P.funcs[f]? = some fn ∧ (fn.name == "runtime.NumGoroutine") = false ∧ fn.body.isNone = false
theorem H0 {P : Program} {w0 : World} {mu : Mu} {c : Cz} {st aP : St} {a : Act} {w : World} (h : Rel w0 mu c st a w) {o : Oper} {f : FuncId} {vals : Array Value} (oE : (execOp a.eval o).run P w = .ok (.enter f vals) w)
   {Bk : u6} (MD : FnOk P f Bk) {ms : List (Pm × V)}
   (hlen : ms.length = vals.toList.length) (vM : ∀ (k : Nat) (m : Pm × V) (x : Value), ms[k]? = some m → vals.toList[k]? = some x → dU c st w m.2 x)
   {fin : St → N} (hv : (Ht st o.dst Bk ms fin).val = some aP) (hd : ∀ k, o.dst = some k → k < a.tmps.size) {kp : Bool} (RF : kp = true → Jz st ms = true)
   (GF : ∀ (c5 : Cz) (gD : St) (a2 : Act) (w' : World), Rel w0 mu c5 gD a2 w' → Fw c st w c5 gD w' →
     (∀ dt u q r, iI st ms = some (dt, u, q, r) → ∀ b l, l.real = true → l ∉ u → (∀ p ∈ r, l ≠ .sp p.1 p.2) → c.own b = some l → w'.heap[b]? = w.heap[b]? ∧ c5.own b = some l) →
     (fin gD).val = some aP → ∃ c6, Rel w0 mu c6 aP a2 w') : vH P w0 mu aP o a w kp := by
   unfold Ht at hv; unfold Jz at RF
   cases he : iI st ms with
   | none => simp [he, N.val] at hv
   | some p =>
     obtain ⟨dt, u, q, r⟩ := p; simp only [he] at hv RF; obtain ⟨hc, hv⟩ := dv hv; rw [Bool.and_eq_true] at hc
     cases hs : Bk dt with
     | none => simp [hs, N.val] at hv
     | some p =>
       simp only [hs] at hv
       cases hox : p.o with
       | none => rw [hox] at hv; cases hv
       | some x =>
       rw [hox] at hv; have JR := hv; clear hv; unfold N.val at JR; simp only at JR; generalize CP : p.res x = res at JR
       cases YO : tn (n8 (yT (bif res.plain then st else freeze st r)) q) ms res.exts with
       | none => simp [YO, N.val] at JR
       | some Ak =>
         simp only [YO] at JR
         cases hly : vq Ak o.dst res.outs with
         | none => simp [hly, N.val] at JR
         | some gD =>
           simp only [hly] at JR; have JR : (fin gD).val = some aP := JR; obtain ⟨Bz, hqu, tb, OZ, ZN, ME, hold⟩ := Fg h ms 0 _ hlen vM he; have JG := oa u Bz hc.1; have Et : ∀ p ∈ r, Lb.sp p.1 p.2 ∉ u := by
             intro p hp hm; have h1 := List.all_eq_true.1 hc.2 p hp; have h2 := List.all_eq_true.1 h1 _ hm; rw [(Lb.zo rfl).2 rfl] at h2
             cases h2
           let lc : Nat → Nat → Loc := fun k => match ms[k]? with | some m => Bw c m.2 | none => fun _ => .nil
           have oT := Classical.propDecidable
           let ρ : Lb → Option Lb := fun l => match look tb l with | some y => some y | none => if (∃ p ∈ r, l = .sp p.1 p.2) then none else some .out
           have zu : ∀ {l y}, look tb l = some y → l ∈ u ∧ y.jV = true := by
             intro l y hl; have := wP tb hl; exact ⟨by rw [← OZ]; exact List.mem_map.2 ⟨_, this, rfl⟩, ZN _ this⟩
           have hρr : ∀ p ∈ r, ρ (.sp p.1 p.2) = none := by
             intro p hp; show (match look tb (.sp p.1 p.2) with | some y => some y | none => if (∃ p' ∈ r, Lb.sp p.1 p.2 = .sp p'.1 p'.2) then none else some .out) = none
             cases hl : look tb (.sp p.1 p.2) with
             | some y => exact absurd (zu hl).1 (Et p hp)
             | none => simp only; rw [if_pos ⟨p, hp, rfl⟩]
           have hρt : ∀ p ∈ tb, ρ p.1 = some p.2 := by
             intro p hp; have := zp tb (by rw [OZ]; exact JG) hp; show (match look tb p.1 with | some y => some y | none => _) = _; rw [this]
           have hρh : ∀ {l y}, ρ l = some y → y = .out ∨ (y.jV = true ∧ l ∈ u) := by
             intro l y hl; have hl : (match look tb l with | some y => some y | none => if (∃ p ∈ r, l = .sp p.1 p.2) then none else some .out) = some y := hl
             cases hk : look tb l with
             | some z =>
               rw [hk] at hl
               cases hl
               exact .inr ⟨(zu hk).2, (zu hk).1⟩
             | none =>
               rw [hk] at hl; simp only at hl
               split at hl
               · cases hl
               · cases hl; exact .inl rfl
           have hρn : ∀ {l}, ρ l = none → ∃ p ∈ r, l = .sp p.1 p.2 := by
             intro l hl; have hl : (match look tb l with | some y => some y | none => if (∃ p ∈ r, l = .sp p.1 p.2) then none else some .out) = none := hl
             cases hk : look tb l with
             | some z => rw [hk] at hl; cases hl
             | none =>
               rw [hk] at hl; simp only at hl
               split at hl
               · assumption
               · cases hl
           let μ : Mu := { m := fun b => ∃ l, (c.map ρ).own b = some l ∧ l.jV = true, ok := fun b => (c.map ρ).own b = none, an := [] }
           have hH : Handed (c.map ρ) w μ := {
             m := fun b => Iff.rfl
             ok := fun b => Iff.rfl
             lt := fun b l hb => by
               obtain ⟨k, hk, _⟩ := Cz.map_some hb; exact (h.owned b k hk).1
             lb := fun b l hb => by
               obtain ⟨k, hk, e⟩ := Cz.map_some hb; exact (hρh e).imp id (·.1) }
           have hA := hold ρ lc (fun k m hm => by simp only [Nat.zero_add, lc, hm]) hρt hρr; have kx := MD (c.map ρ) w μ lc dt vals p x hH hA hs hox; rw [CP] at kx; intro Q; unfold Oper.wp; rw [oE, Oper.upon_enter]; refine kx.mono fun e w' C7 => ?_
           obtain ⟨v, rfl, c1, Az, hV, hX⟩ := C7; obtain ⟨c2, s2, Q2, hR2, hF2, YP, aeP, aeQ⟩ : ∃ (c2 : Cz) (s2 : St), (bif res.plain then st else freeze st r) = s2 ∧ Rel w0 mu c2 s2 a w ∧ Fw c st w c2 s2 w ∧ (∀ b, μ.m b → ∃ l, c2.own b = some l ∧ l ∈ u) ∧ (res.plain = true ∨ ∀ b, μ.ok b → c2.own b = none) ∧
               (∀ b l, (∀ p ∈ r, l ≠ .sp p.1 p.2) → c.own b = some l → c2.own b = some l) := by
             have hm : ∀ b, μ.m b → ∃ l, c.own b = some l ∧ l ∈ u := by
               rintro b ⟨l, hl, hh⟩
               obtain ⟨k, hk, e⟩ := Cz.map_some hl; rcases hρh e with e2 | e2
               · subst e2; cases hh
               · exact ⟨k, hk, e2.2⟩
             cases hp : res.plain with
             | true => exact ⟨c, st, rfl, h, Fw.refl c st w, hm, .inl rfl, fun _ _ _ h => h⟩
             | false =>
               refine ⟨c.drop r, freeze st r, rfl, Rel.freeze r h, Fw.freeze w r c st, fun b hb => ?_, .inr fun b hb => ?_, fun b l hl hb => Cz.xL r c hb hl⟩
               · obtain ⟨l, h1, h2⟩ := hm b hb; exact ⟨l, Cz.xL r c h1 (fun p hp e => Et p hp (e ▸ h2)), h2⟩
               · have hb : (c.own b).bind ρ = none := hb
                 cases hk : c.own b with
                 | none => exact Cz.yY r c b hk
                 | some l =>
                   rw [hk] at hb; obtain ⟨p, hp, e⟩ := hρn hb; subst e; exact Cz.Ck r c b hk hp
           rw [Q2] at YO; obtain ⟨g1, g2, gfr, g3, g4⟩ := hR2.ZK Az (X := fun l => l ∈ u) YP (fun l hl e => by subst e; cases Bz _ hl); have JS : (∀ b, c1.ok b → (c2.merge c1 w.heap.size μ.m).ok b) ∨ res.plain = true := by
             rcases aeP with h1 | h1
             · exact .inr h1
             · exact .inl (g4 h1)
           have O0 : res.plain = true → res.outs.all (fun o => o.vp.all OV.plain) = true ∧ res.exts.all XV.plain = true := by
             intro hp; unfold Res.plain at hp
             rwa [Bool.and_eq_true] at hp
           have hV' : qJ (c2.merge c1 w.heap.size μ.m) w' res.outs v := hV.pass (fun b j => g3 b (.il j) rfl) (JS.imp id fun hp => (O0 hp).1); have My : iq (c2.merge c1 w.heap.size μ.m) w' lc 0 dt vals.toList res.exts := iq.pass dt 0 (fun b k _ => g3 b (.sE k) rfl) (fun b k j _ => g3 b (.bG k j) rfl) _ _ (JS.imp id fun hp => (O0 hp).2) hX; obtain ⟨c3, k1, k2, k3⟩ := xK q g1; have ZO : ∀ b, (c2.merge c1 w.heap.size μ.m).ok b → c3.ok b := fun b hb => by unfold Cz.ok at *; rw [k3]; exact hb
           have hV3 : qJ c3 w' res.outs v := hV'.pass (fun b j hb => by rw [k3]; exact hb) (.inl ZO); have hX3 : iq c3 w' lc 0 dt vals.toList res.exts := iq.pass dt 0 (fun b k _ hb => by rw [k3]; exact hb) (fun b k j _ hb => by rw [k3]; exact hb) _ _ (.inl ZO) My; obtain ⟨c4, l1, l2, l3⟩ := C5 ms 0 dt _ _ k1 ((hF2.trans g2).trans k2) vM (By ms he) ME.symm hlen (fun k m hm => by simp only [Nat.zero_add, lc, hm]) hX3 YO; have hV4 : qJ c4 w' res.outs v := hV3.pass (fun b j => l3.bG b (.il j) (.inl ⟨j, rfl⟩)) (.inl l3.ok); obtain ⟨c5, n1, n2, n3⟩ := l1.laid hV4 hly hd; have ZP : Rel w0 mu c5 gD (a.put o.dst v) w' := by
             refine (n1.mono (X' := fun _ => False) (fun l hl => ?_)).rel; obtain ⟨⟨Oa, RJ⟩, hl3⟩ := hl; rcases C6 ms he l Oa with ⟨h1, s, j, e⟩ | ⟨m, h1, h2⟩
             · subst e; exact RJ s j h1 rfl
             · exact hl3 m h1 h2
           obtain ⟨c6, hc6⟩ := GF c5 gD _ w' ZP (l2.trans n2) (fun RG u' q' r' Uk b l Oa RJ hl3 hb => by
             rw [he] at Uk; simp only [Option.some.injEq, Prod.mk.injEq] at Uk; obtain ⟨rfl, rfl, rfl, rfl⟩ := Uk; have Fi := aeQ b l hl3 hb; obtain ⟨f1, f2⟩ := gfr b l Fi RJ; refine ⟨f1, n3 b l Oa (l3.bG b l (.inr Oa) ?_)⟩; rw [k3, f2]; exact Fi) JR
           refine ⟨⟨c6, hc6, qH _ _ _⟩, fun aeS => ⟨Az.kept.2.2.2, fun k hk => Az.old k hk (fun hmu => ?_)⟩⟩; have hu0 : u = [] := by simpa using RF aeS
           obtain ⟨_, _, Cd⟩ := YP k hmu; rw [hu0] at Cd
           cases Cd
end Go.TM
namespace Go.TM
open Go Go.RowKit
def vN (st : St) (n : Nat × Nat) : Prop := ∃ g A, aQ st n.1 n.2 g = some A ∧ A.md.E2 = false
theorem MF {st : St} {own : Bool} {x : CV} {o : OV} {u : Option Lb} {r : List (Nat × Nat)} (h : fy st own x = some (o, u, r)) : (∀ s j, u = some (.sp s j) → vN st (s, j)) ∧ ∀ p ∈ r, vN st p := by
 cases x with
 | ref a j g w =>
   unfold fy at h; simp only at h
   cases hA : aQ st a j g with
   | none => simp [hA] at h
   | some A =>
     simp only [hA] at h
     cases hm : A.md.E2 with
     | true => simp [hm] at h
     | false =>
     have xi := hm; simp only [hm, cond_false] at h
     cases hb : (own && A.own && (A.md.is .sh || w.isFull)) <;> simp only [hb, cond_true, cond_false, Option.some.injEq, Prod.mk.injEq] at h <;> obtain ⟨_, rfl, rfl⟩ := h
     · exact ⟨by simp, fun p hp => by simp at hp; subst hp; exact ⟨g, A, hA, xi⟩⟩
     · refine ⟨fun s k e => ?_, by simp⟩; simp only [Option.some.injEq, Lb.sp.injEq] at e; obtain ⟨rfl, rfl⟩ := e; exact ⟨g, A, hA, xi⟩
 | oU a j g e i k q ys =>
   unfold fy at h; simp only at h
   cases hA : aQ st a j g with
   | none => simp [hA] at h
   | some A =>
     simp only [hA] at h; obtain ⟨h1, h⟩ := aH h; rw [Bool.and_eq_true] at h1; have hm := Md.lS.1 h1.1; simp only [Option.some.injEq, Prod.mk.injEq] at h; obtain ⟨_, rfl, rfl⟩ := h; exact ⟨by simp, fun p hp => by simp at hp; subst hp; exact ⟨g, A, hA, by rw [hm]; rfl⟩⟩
 | lf q y off => obtain ⟨_, rfl, rfl⟩ := vI h; simp
 | sn q y off => obtain ⟨_, rfl, rfl⟩ := sL h; simp
 | _ => simp [fy] at h <;> (try (obtain ⟨_, rfl, rfl⟩ := h; simp))
theorem sO {st : St} {own : Bool} : (cs : List CV) → {os : List OV} → {u : List (Option Lb)} → {r : List (Nat × Nat)} → eF st own cs = some (os, u, r) → (∀ s j, .sp s j ∈ bF u → vN st (s, j)) ∧ ∀ p ∈ r, vN st p
 | [], _, _, _, h => by
   simp only [eF, Option.some.injEq, Prod.mk.injEq] at h; obtain ⟨_, rfl, rfl⟩ := h; simp [bF]
 | x :: cs, os, u, r, h => by
   unfold eF at h
   cases hc : fy st own x with
   | none => simp [hc] at h
   | some p =>
     obtain ⟨o, u1, r1⟩ := p
     cases hq : eF st own cs with
     | none => simp [hc, hq] at h
     | some q =>
       obtain ⟨zn, us, rs⟩ := q; simp only [hc, hq, Option.some.injEq, Prod.mk.injEq] at h; obtain ⟨_, rfl, rfl⟩ := h; obtain ⟨a1, a2⟩ := MF hc; obtain ⟨b1, b2⟩ := sO cs hq; refine ⟨fun s j hm => ?_, fun p hp => ?_⟩
       · rw [gk] at hm; rcases List.mem_cons.1 hm with hm | hm
         · exact a1 s j hm.symm
         · exact b1 s j (gk.2 hm)
       · rcases List.mem_append.1 hp with hp | hp
         · exact a2 p hp
         · exact b2 p hp
theorem H2 {st : St} {m : Pm} {v : V} {av : AV} {u q : List Lb} {r : List (Nat × Nat)} (h : dO st m v = some (av, u, q, r)) : (∀ s j, .sp s j ∈ u → vN st (s, j)) ∧ ∀ p ∈ r, vN st p := by
 have single : ∀ own cs ag, (match eF st own cs with | some (os, u, r) => some (AV.val ag os, bF u, bF u, r) | none => none) = some (av, u, q, r) → (∀ s j, .sp s j ∈ u → vN st (s, j)) ∧ ∀ p ∈ r, vN st p := by
   intro own cs ag h
   cases hq : eF st own cs with
   | none => simp [hq] at h
   | some p =>
     obtain ⟨os, us, rs⟩ := p; simp only [hq, Option.some.injEq, Prod.mk.injEq] at h; obtain ⟨_, rfl, rfl, rfl⟩ := h; exact sO cs hq
 cases v with
 | mz _ => simp [dO] at h
 | agg cs =>
   unfold dO at h
   cases m with
   | shr => exact single _ _ _ h
   | own => exact single _ _ _ h
   | pick _ => exact single _ _ _ h
   | io => exact single _ _ _ h
   | bB =>
     simp only at h
     cases hq : eF st true cs with
     | none => simp [hq] at h
     | some p =>
       obtain ⟨os, us, rs⟩ := p; simp only [hq] at h; obtain ⟨_, h1⟩ := aH h; simp only [Option.some.injEq, Prod.mk.injEq] at h1; obtain ⟨_, rfl, _, rfl⟩ := h1; exact sO cs hq
 | one cx =>
   cases cx with
   | ptr b g off =>
     unfold dO at h; simp only at h
     cases hb : di st b g with
     | none => simp [hb] at h
     | some cs =>
       simp only [hb] at h
       cases hq : eF st true cs with
       | none => simp [hq] at h
       | some p =>
         obtain ⟨os, us, rs⟩ := p; simp only [hq] at h; obtain ⟨_, h1⟩ := aH h; simp only [Option.some.injEq, Prod.mk.injEq] at h1; obtain ⟨_, rfl, rfl, rfl⟩ := h1; obtain ⟨a1, a2⟩ := sO cs hq; refine ⟨fun s j hm => ?_, a2⟩; rcases List.mem_cons.1 hm with hm | hm
         · cases hm
         · exact a1 s j hm
   | ref s j g vw =>
     unfold dO at h
     cases m with
     | shr => exact single _ _ _ h
     | own => exact single _ _ _ h
     | pick _ => exact single _ _ _ h
     | bB => exact single _ _ _ h
     | io =>
       cases vw with
       | full =>
         cases hA : aQ st s j g with
         | none => simp [hA] at h
         | some A =>
           simp only [hA] at h; obtain ⟨hb, h1⟩ := aH h; simp only [Option.some.injEq, Prod.mk.injEq] at h1; obtain ⟨_, rfl, _, rfl⟩ := h1; refine ⟨fun s' j' hm => ?_, by simp⟩; simp at hm; obtain ⟨rfl, rfl⟩ := hm; rw [Bool.and_eq_true] at hb; exact ⟨g, A, hA, by cases hh : A.md.E2 <;> simp_all⟩
       | «from» _ => simp at h
       | sub _ _ => simp at h
   | _ =>
     unfold dO at h; simp only at h
     split at h
     · rename_i os us rs hq; simp only [Option.some.injEq, Prod.mk.injEq] at h; obtain ⟨_, rfl, _, rfl⟩ := h; exact sO _ hq
     · cases h
theorem BA {st : St} : (ms : List (Pm × V)) → {dt : List AV} → {u q : List Lb} → {r : List (Nat × Nat)} → iI st ms = some (dt, u, q, r) → (∀ s j, .sp s j ∈ u → vN st (s, j)) ∧ ∀ p ∈ r, vN st p
 | [], _, _, _, _, h => by
   simp only [iI, Option.some.injEq, Prod.mk.injEq] at h; obtain ⟨_, rfl, _, rfl⟩ := h; simp
 | (m, v) :: ms, dt, u, q, r, h => by
   unfold iI at h
   cases h1 : dO st m v with
   | none => simp [h1] at h
   | some p1 =>
     obtain ⟨av, u1, q1, r1⟩ := p1
     cases h2 : iI st ms with
     | none => simp [h1, h2] at h
     | some p2 =>
       obtain ⟨RG, u2, q2, r2⟩ := p2; simp only [h1, h2, Option.some.injEq, Prod.mk.injEq] at h; obtain ⟨_, rfl, _, rfl⟩ := h; obtain ⟨a1, a2⟩ := H2 h1; obtain ⟨b1, b2⟩ := BA ms h2; refine ⟨fun s j hm => ?_, fun p hp => ?_⟩
       · rcases List.mem_append.1 hm with hm | hm
         · exact a1 s j hm
         · exact b1 s j hm
       · rcases List.mem_append.1 hp with hp | hp
         · exact a2 p hp
         · exact b2 p hp
theorem Cl : {l : List Nat} → Gn l = true → ∀ {a b : Nat} {x y : Nat}, l[a]? = some x → l[b]? = some y → a < b → x < y
 | [], _, a, b, x, y, h, _, _ => by simp at h
 | [z], _, a, b, x, y, h1, h2, hab => by
   have : b = 0 := by
     have := (List.getElem?_eq_some_iff.1 h2).1; simpa using this
   omega
 | z :: z' :: l, h, a, b, x, y, h1, h2, hab => by
   simp only [Gn, Bool.and_eq_true] at h; have hz : z < z' := by have := h.1; simp [Nat.blt] at this; omega
   cases b with
   | zero => omega
   | succ b =>
     cases a with
     | succ a => exact Cl h.2 (by simpa using h1) (by simpa using h2) (by omega)
     | zero =>
       simp at h1; subst h1
       cases b with
       | zero => simp at h2; omega
       | succ b =>
         have := Cl (a := 0) (b := b + 1) h.2 rfl (by simpa using h2) (by omega); omega
theorem O1 {l : List Nat} (h : Gn l = true) {a b x : Nat} (h1 : l[a]? = some x) (h2 : l[b]? = some x) : a = b := by
 rcases Nat.lt_trichotomy a b with h3 | h3 | h3
 · have := Cl h h1 h2 h3; omega
 · exact h3
 · have := Cl h h2 h1 h3; omega
theorem C8 {k : Nat} : (n : Nat) → (l : List Dr) → (∃ y ∈ l, y.k = k) → ∃ i y, posOf k n l = n + i ∧ l[i]? = some y ∧ y.k = k
 | n, [], h => by obtain ⟨y, hy, _⟩ := h; cases hy
 | n, x :: l, h => by
   unfold posOf
   cases hb : Nat.beq x.k k with
   | true => exact ⟨0, x, rfl, rfl, Nat.eq_of_beq_eq_true hb⟩
   | false =>
     have fe : x.k ≠ k := by intro e; rw [e, Nat.beq_refl] at hb; cases hb
     obtain ⟨y, hy, e⟩ := h; rcases List.mem_cons.1 hy with rfl | hy
     · exact absurd e fe
     · obtain ⟨i, y', h1, h2, h3⟩ := C8 (n + 1) l ⟨y, hy, e⟩; exact ⟨i + 1, y', by rw [cond_false, h1]; omega, by simpa using h2, h3⟩
theorem H3 {l : List Dr} (hi : Gn (l.map (·.k)) = true) {i : Nat} {y : Dr} (h : l[i]? = some y) : posOf y.k 0 l = i := by
 obtain ⟨i', y', h1, h2, h3⟩ := C8 (k := y.k) 0 l ⟨y, List.mem_of_getElem? h, rfl⟩; rw [h1, Nat.zero_add]; exact O1 hi (x := y.k) (by rw [List.getElem?_map, h2]; simp [h3]) (by rw [List.getElem?_map, h]; rfl)
def Dr.cv (y : Dr) : CV := .oU y.a y.j y.g y.e y.i y.k y.q y.ys
theorem tI {y : Dr} : {cs : List CV} → y ∈ xD cs → y.cv ∈ cs
 | [], h => by simp [xD] at h
 | c :: cs, h => by
   cases c with
   | oU a j g e i k q ys =>
     rcases List.mem_cons.1 h with rfl | h
     · exact List.mem_cons_self
     · exact List.mem_cons_of_mem _ (tI h)
   | _ => exact List.mem_cons_of_mem _ (tI h)
theorem C9 {a j g e i k : Nat} {q : RT} {ys : List (ar q)} : {cs : List CV} → CV.oU a j g e i k q ys ∈ cs → (⟨a, j, g, e, i, k, q, ys⟩ : Dr) ∈ xD cs
 | [], h => by cases h
 | c :: cs, h => by
   rcases List.mem_cons.1 h with rfl | h
   · exact List.mem_cons_self
   · have := C9 (cs := cs) h
     cases c with
     | oU _ _ _ _ _ _ _ _ => exact List.mem_cons_of_mem _ this
     | _ => exact this
theorem Da {y : Dr} : {ms : List (Pm × V)} → y ∈ qC ms → ∃ m ∈ ms, (m = (.io, .one y.cv)) ∨ ∃ cs, m = (.bB, .agg cs) ∧ y.cv ∈ cs
 | [], h => by simp [qC] at h
 | (p, v) :: ms, h => by
   have rest : y ∈ qC ms → ∃ m ∈ (p, v) :: ms, (m = (.io, .one y.cv)) ∨ ∃ cs, m = (.bB, .agg cs) ∧ y.cv ∈ cs := fun h => by
     obtain ⟨m, hm, e⟩ := Da h; exact ⟨m, List.mem_cons_of_mem _ hm, e⟩
   cases p with
   | io => cases v with
     | one c =>
       rcases List.mem_append.1 h with h | h
       · have := tI h; simp at this; exact ⟨_, List.mem_cons_self, .inl (by rw [this])⟩
       · exact rest h
     | _ => exact rest h
   | bB => cases v with
     | agg cs =>
       rcases List.mem_append.1 h with h | h
       · exact ⟨_, List.mem_cons_self, .inr ⟨cs, rfl, tI h⟩⟩
       · exact rest h
     | _ => exact rest h
   | _ => exact rest (by cases v <;> exact h)
theorem Fk {a j g e i k : Nat} {q : RT} {ys : List (ar q)} : {ms : List (Pm × V)} → (.io, .one (.oU a j g e i k q ys)) ∈ ms → (⟨a, j, g, e, i, k, q, ys⟩ : Dr) ∈ qC ms
 | [], h => by cases h
 | (p, v) :: ms, h => by
   rcases List.mem_cons.1 h with h | h
   · cases h
     exact List.mem_append_left _ List.mem_cons_self
   · have := Fk (ms := ms) h
     cases p <;> cases v <;> first | exact this | exact List.mem_append_right _ this
theorem BB {a j g e i k : Nat} {q : RT} {ys : List (ar q)} {cs : List CV} (hc : CV.oU a j g e i k q ys ∈ cs) : {ms : List (Pm × V)} → (.bB, .agg cs) ∈ ms → (⟨a, j, g, e, i, k, q, ys⟩ : Dr) ∈ qC ms
 | [], h => by cases h
 | (p, v) :: ms, h => by
   rcases List.mem_cons.1 h with h | h
   · cases h
     exact List.mem_append_left _ (C9 hc)
   · have := BB hc (ms := ms) h
     cases p <;> cases v <;> first | exact this | exact List.mem_append_right _ this
theorem zv {st : St} {ms : List (Pm × V)} {x : Dr} {A : gP} {l : List Dr} (h : lG st ms = some (x, A, l)) :
   l = qC ms ∧ aQ st x.a x.j x.g = some A ∧ A.own = true ∧ A.md = .dp ∧ lT st x.a = x.e ∧ (∀ y ∈ l, y.a = x.a ∧ y.j = x.j ∧ y.g = x.g ∧ y.e = x.e ∧ y.i = x.i) ∧ Gn (l.map (·.k)) = true ∧ x.a ≠ st.length - 1 := by
 unfold lG at h
 cases hd : qC ms with
 | nil => rw [hd] at h; cases h
 | cons y l' =>
   rw [hd] at h; simp only at h
   cases hA : aQ st y.a y.j y.g with
   | none => rw [hA] at h; cases h
   | some B =>
     rw [hA] at h; simp only at h; obtain ⟨h1, h⟩ := aH h; simp only [Option.some.injEq, Prod.mk.injEq] at h; obtain ⟨rfl, rfl, rfl⟩ := h; simp only [Bool.and_eq_true] at h1; obtain ⟨⟨⟨⟨⟨h1, h2⟩, h3⟩, h4⟩, h5⟩, h6⟩ := h1; refine ⟨rfl, hA, h1, Md.lS.1 h2, (Nat.eq_of_beq_eq_true h3).symm, fun z hz => ?_, h5, fun e => ?_⟩
     · rcases List.mem_cons.1 hz with rfl | hz
       · exact ⟨rfl, rfl, rfl, rfl, rfl⟩
       · have := List.all_eq_true.1 h4 z hz; simp only [Bool.and_eq_true] at this; obtain ⟨⟨⟨⟨q1, q2⟩, q3⟩, q4⟩, q5⟩ := this; exact ⟨Nat.eq_of_beq_eq_true q1, Nat.eq_of_beq_eq_true q2, Nat.eq_of_beq_eq_true q3, Nat.eq_of_beq_eq_true q4, Nat.eq_of_beq_eq_true q5⟩
     · rw [← e, Nat.beq_refl] at h6
       cases h6
theorem H4 : (r : RT) → (x : ar r) → (k : Nat) → {p : (q : RT) × List (ar q)} → pL r x k = some p → k < r.width
 | .nil, _, _, _, h => by simp [pL] at h
 | .cons t r, x, 0, _, _ => by simp [RT.width]
 | .cons t r, x, k + 1, p, h => by
   have h' : pL r x.2 k = some p := by cases t <;> exact h
   have := H4 r x.2 k h'; simp [RT.width]; omega
noncomputable def Cz.split (c : Cz) (a j i P : Nat) (gg : Nat → List Nat) (l : List Dr) (Ob : Nat → Loc) : Cz :=
 { bx := c.bx, lc := fun s k => if s = P then Ob k else c.lc s k,
   own := fun k => have := Classical.propDecidable (c.own k = some (.sp a j) ∧ ∃ y q, y ∈ l ∧ gg k = i :: y.k :: q); if c.own k = some (.sp a j) ∧ ∃ y q, y ∈ l ∧ gg k = i :: y.k :: q then some (.sp P (posOf ((gg k).getD 1 0) 0 l)) else c.own k }
theorem Cz.nL {c : Cz} {a j i P : Nat} {gg : Nat → List Nat} {l : List Dr} {Ob : Nat → Loc} {k : Nat} (h : ¬ (c.own k = some (.sp a j) ∧ ∃ y q, y ∈ l ∧ gg k = i :: y.k :: q)) : (c.split a j i P gg l Ob).own k = c.own k := by
 unfold Cz.split; simp only; rw [if_neg h]
theorem Cz.H5 {c : Cz} {a j i P : Nat} {gg : Nat → List Nat} {l : List Dr} {Ob : Nat → Loc} (hi : Gn (l.map (·.k)) = true) {k n : Nat} {y : Dr} {q : List Nat} (h : c.own k = some (.sp a j)) (hy : l[n]? = some y) (hg : gg k = i :: y.k :: q) : (c.split a j i P gg l Ob).own k = some (.sp P n) := by
 unfold Cz.split; simp only; rw [if_pos ⟨h, y, q, List.mem_of_getElem? hy, hg⟩, hg]; have : (i :: y.k :: q).getD 1 0 = y.k := rfl; rw [this, H3 hi hy]
theorem Cz.vO {c : Cz} {a j i P : Nat} {gg : Nat → List Nat} {l : List Dr} {Ob : Nat → Loc} {k : Nat} : (c.split a j i P gg l Ob).ok k ↔ c.ok k := by
 unfold Cz.ok
 by_cases h : c.own k = some (.sp a j) ∧ ∃ y q, y ∈ l ∧ gg k = i :: y.k :: q
 · have h0 := h.1; unfold Cz.split; simp only; rw [if_pos h, h0]; simp
 · rw [Cz.nL h]
theorem Cz.JT {c : Cz} {a j i P : Nat} {gg : Nat → List Nat} {l : List Dr} {Ob : Nat → Loc} {k : Nat} {lb : Lb} (h : (c.split a j i P gg l Ob).own k = some lb) : c.own k = some lb ∨ (c.own k = some (.sp a j) ∧ ∃ n, lb = .sp P n) := by
 by_cases h1 : c.own k = some (.sp a j) ∧ ∃ y q, y ∈ l ∧ gg k = i :: y.k :: q
 · unfold Cz.split at h; simp only at h; rw [if_pos h1] at h; exact .inr ⟨h1.1, _, (Option.some.inj h).symm⟩
 · rw [Cz.nL h1] at h; exact .inl h
theorem vP {st : St} {x : Dr} {A : gP} {l : List Dr} (fe : x.a ≠ st.length - 1) (s : Nat) : nth (dS st x A l) s = if s = st.length - 1 then (nth st s).map (fun z => { z with aK := l.map (fun y => some y.arr), ag := z.ag + 1, ep := z.ep + 1 }) else
   (if s = x.a then (nth st s).map (fun z => { z with aK := mq (fun _ => some { A with md := .ho x.i }) z.aK x.j, ep := z.ep + 1 }) else nth st s) := by
 unfold dS bo; rw [dn, dn]
 by_cases e : s = st.length - 1
 · rw [if_pos e, if_pos e, if_neg (show ¬ (s = x.a) from fun e' => fe (e'.symm.trans e))]
 · rw [if_neg e, if_neg e]
end Go.TM
namespace Go.TM
open Go Go.RowKit
structure Tk (c c1 : Cz) (st : St) (w : World) (x : Dr) (A : gP) (l : List Dr) (gg : Nat → List Nat) (b o cap : Nat) : Prop where
 lc : c.lc x.a x.j = .at b o cap
 lc1 : c1.lc x.a x.j = .at b o cap
 own : c.own b = some (.sp x.a x.j)
 g0 : gg b = []
 rows : ∀ (i : Nat) z, A.xs[i]? = some z → fN w (fun p k => c.own k = some (.sp x.a x.j) ∧ gg k = p) A.r [i] 0 b (o + i * A.r.width) z
 stay : ∀ k, c.own k = some (.sp x.a x.j) → (∀ y ∈ l, ∀ q, gg k ≠ x.i :: y.k :: q) → c1.own k = some (.sp x.a x.j)
 out : ∀ n y, l[n]? = some y → ∃ v, w.cell? ⟨b, o + x.i * A.r.width + y.k, none⟩ = some v ∧ v.oneCell' = true ∧ je (c1.lc (st.length - 1) n) y.q.width 0 y.ys.length v ∧ y.k < A.r.width
 len : x.i < A.xs.length
theorem vO {w0 : World} {mu : Mu} {c : Cz} {st : St} {a : Act} {w : World} (h : Rel w0 mu c st a w) {ms : List (Pm × V)} {x : Dr} {A : gP} {l : List Dr} (hs : lG st ms = some (x, A, l)) (vM : ∀ m ∈ ms, ∃ v, dU c st w m.2 v) :
   ∃ (c1 : Cz) (gg : Nat → List Nat) (b o cap : Nat), Rel w0 mu c1 (dS st x A l) a w ∧ Fw c st w c1 (dS st x A l) w ∧ Tk c c1 st w x A l gg b o cap ∧
     ∀ m ∈ ms, ∀ v, dU c st w m.2 v → dU c1 (dS st x A l) w (Rq (st.length - 1) (nw st (st.length - 1) + 1) l m).2 v := by
 obtain ⟨hl, hA, eW, xi, hep, qK, MG, fe⟩ := zv hs; have qN : ∀ y ∈ l, ∃ v, jw c st w y.cv v := by
   intro y hy; rw [hl] at hy; obtain ⟨m, hm, e | ⟨cs, e, hc⟩⟩ := Da hy
   · obtain ⟨v, hv⟩ := vM m hm; rw [e] at hv; exact ⟨v, hv⟩
   · obtain ⟨v, hv⟩ := vM m hm; rw [e] at hv; obtain ⟨vs, rfl, hL⟩ := hv; obtain ⟨k, hk⟩ := List.mem_iff_getElem?.1 hc; have bN : k < vs.toList.length := by rw [← hL.1]; exact (List.getElem?_eq_some_iff.1 hk).1
     exact ⟨_, hL.2 k _ _ hk (List.getElem?_eq_getElem bN)⟩
 have ZQ : ∀ y ∈ l, ∀ v, jw c st w y.cv v → ∃ (gg : Nat → List Nat) (b o cap : Nat), c.lc x.a x.j = .at b o cap ∧ A.md = .dp ∧ gg b = [] ∧ w.cell? ⟨b, o + x.i * A.r.width + y.k, none⟩ = some v ∧
     (∀ (i : Nat) z, A.xs[i]? = some z → fN w (fun p k => c.own k = some (.sp x.a x.j) ∧ gg k = p) A.r [i] 0 b (o + i * A.r.width) z) ∧ (∃ z, A.xs[x.i]? = some z ∧ pL A.r z y.k = some ⟨y.q, y.ys⟩) := by
   intro y hy v hv; obtain ⟨e1, e2, e3, e4, e5⟩ := qK y hy; obtain ⟨ya, yj, yg, ye, yi, yk, yq, yys⟩ := y; simp only at e1 e2 e3 e4 e5; subst e1 e2 e3 e4 e5; obtain ⟨gg, b, o, cap, h1, h2, h3, h4, h5, h6, _⟩ := HQ hv hA hep (h.sH hA); exact ⟨gg, b, o, cap, h1, h2, h3, h4, h5, h6⟩
 have dQ := h.sH hA; obtain ⟨y0, ZR⟩ : ∃ y, y ∈ l := by
   cases RJ : l with
   | cons y _ => exact ⟨y, List.mem_cons_self⟩
   | nil =>
     rw [RJ] at hl; unfold lG at hs; rw [← hl] at hs
     cases hs
 obtain ⟨v0, hv0⟩ := qN y0 ZR; obtain ⟨gg, b, o, cap, gV, _, Li, _, uU, JU⟩ := ZQ y0 ZR v0 hv0; have O2 : ∀ y ∈ l, ∀ v, jw c st w y.cv v → w.cell? ⟨b, o + x.i * A.r.width + y.k, none⟩ = some v ∧ (∃ z, A.xs[x.i]? = some z ∧ pL A.r z y.k = some ⟨y.q, y.ys⟩) := by
   intro y hy v hv; obtain ⟨_, b', o', JB, h1, _, _, h4, _, h6⟩ := ZQ y hy v hv; rw [gV] at h1; injection h1 with e1 e2 e3; subst e1 e2 e3; exact ⟨h4, h6⟩
 have O3 : ∀ n : Nat, ∃ lc : Loc, ∀ y, l[n]? = some y → ∃ v, w.cell? ⟨b, o + x.i * A.r.width + y.k, none⟩ = some v ∧ v.oneCell' = true ∧ je lc y.q.width 0 y.ys.length v ∧
     ((lc = .nil ∧ y.ys = []) ∨ ∃ b' off JB, lc = .at b' off JB ∧ (c.own b' = some (.sp x.a x.j) ∧ gg b' = [x.i, y.k]) ∧ y.ys.length ≤ JB ∧ (∃ cur ty, w.heap[b']? = some (.cells cur ty (0, 0)) ∧ off + JB * y.q.width ≤ cur.size) ∧
       ∀ (i : Nat) z, y.ys[i]? = some z → fN w (fun p k => c.own k = some (.sp x.a x.j) ∧ gg k = p) y.q ([x.i, y.k] ++ [i]) 0 b' (off + i * y.q.width) z) := by
   intro n
   cases hn : l[n]? with
   | none => exact ⟨.nil, fun y hy => by cases hy⟩
   | some y =>
     have hy := List.mem_of_getElem? hn; obtain ⟨v, hv⟩ := qN y hy; obtain ⟨h4, z, O4, MH⟩ := O2 y hy v hv; obtain ⟨v', q1, q2⟩ := Ar A.r [x.i] 0 _ z y.k (uU x.i z O4) MH; rw [h4] at q1
     cases q1
     obtain ⟨lc, r1, r2, r3⟩ := (vz _ _ _ _ _ _).1 q2; refine ⟨lc, fun y' Q4 => ?_⟩
     cases Q4
     exact ⟨v, h4, r2, r1, by simpa using r3⟩
 obtain ⟨Ob, UM⟩ := Classical.axiomOfChoice O3; have hb : c.own b = some (.sp x.a x.j) := by
   unfold bI at dQ; rw [gV] at dQ; have := dQ.1
   rwa [eW] at this
 let P := st.length - 1
 let c1 := c.split x.a x.j x.i P gg l Ob
 have zw := vP (A := A) (l := l) fe; obtain ⟨sla, Tl, ha2, ZS⟩ := ba hA; have UN : P < st.length := by
   have := Gq Tl; show st.length - 1 < st.length; omega
 obtain ⟨slP, hP⟩ : ∃ s, nth st P = some s := ⟨st[P], by rw [fL]; exact List.getElem?_eq_getElem UN⟩; have hgP : nw st P = slP.ag := by unfold nw; rw [hP]
 have Fl : ∀ s k, s ≠ P → c1.lc s k = c.lc s k := fun s k e => by show (if s = P then _ else _) = _; rw [if_neg e]
 have O5 : ∀ k, c1.lc P k = Ob k := fun k => by show (if P = P then _ else _) = _; rw [if_pos rfl]
 have Aw : ∀ s, cQ st s ≤ cQ (dS st x A l) s ∧ fM st s = fM (dS st x A l) s ∧ lT st s ≤ lT (dS st x A l) s ∧ (s = P ∨ s = x.a → nth st s ≠ none → lT (dS st x A l) s ≠ lT st s) := by
   intro s; unfold cQ fM lT; rw [zw]
   by_cases e : s = st.length - 1
   · rw [if_pos e]
     cases nth st s with
     | none => simp
     | some z => refine ⟨by simp, rfl, by simp, fun _ _ => by simp⟩
   · rw [if_neg e]
     by_cases e2 : s = x.a
     · rw [if_pos e2]
       cases nth st s with
       | none => simp
       | some z => refine ⟨by simp, rfl, by simp, fun _ _ => by simp⟩
     · rw [if_neg e2]; exact ⟨Nat.le_refl _, rfl, Nat.le_refl _, fun h => absurd h (by rintro (h | h); exact e h; exact e2 h)⟩
 have ZT : cQ (dS st x A l) P = slP.ag + 1 := by
   unfold cQ; rw [zw, if_pos rfl, hP]; rfl
 have gj : Fw c st w c1 (dS st x A l) w := {
   stays := ⟨Nat.le_refl _, fun _ _ _ => rfl, fun _ _ h => Cz.vO.2 h⟩
   refs := fun a' j' g' A2 hg JM => by
     obtain ⟨sl, k1, k2, k3⟩ := ba JM; rw [zw] at k1
     by_cases e : a' = st.length - 1
     · rw [if_pos e] at k1; obtain ⟨z, hz, rfl⟩ := Option.map_eq_some_iff.1 k1; unfold cQ at hg; rw [hz] at hg; simp only at k2 hg; omega
     · rw [if_neg e] at k1
       by_cases e2 : a' = x.a
       · rw [if_pos e2] at k1; obtain ⟨z, hz, rfl⟩ := Option.map_eq_some_iff.1 k1; have ZU := (Aw a').2.2.2 (.inr e2) (by rw [hz]; simp); simp only at k2 k3; rw [dn] at k3
         by_cases e3 : j' = x.j
         · rw [if_pos e3] at k3; subst e2 e3; rw [Tl] at hz
           cases hz
           rw [ZS] at k3; simp only [Option.map_some, Option.some.injEq] at k3; subst k3; exact ⟨A, ob Tl k2 ZS, rfl, rfl, Fl _ _ e, fun he => absurd he ZU⟩
         · rw [if_neg e3] at k3; exact ⟨A2, ob hz k2 k3, rfl, rfl, Fl _ _ e, fun he => absurd he ZU⟩
       · rw [if_neg e2] at k1; exact ⟨A2, ob k1 k2 k3, rfl, rfl, Fl _ _ e, fun _ => ⟨rfl, fun _ _ _ _ => rfl⟩⟩
   B8 := fun b' g' mA _ lV => by
     refine ⟨⟨mA, ?_⟩, rfl⟩; unfold di at lV ⊢; rw [zw] at lV
     by_cases e : b' = st.length - 1
     · rw [if_pos e] at lV
       cases hz : nth st b' with
       | none => rw [hz] at lV; cases lV
       | some z => rw [hz] at lV; exact lV
     · rw [if_neg e] at lV
       by_cases e2 : b' = x.a
       · rw [if_pos e2] at lV
         cases hz : nth st b' with
         | none => rw [hz] at lV; cases lV
         | some z => rw [hz] at lV; exact lV
       · rw [if_neg e2] at lV; exact lV
   gA := fun s => (Aw s).1
   gB := fun s => Nat.le_of_eq (Aw s).2.1
   gE := fun s => (Aw s).2.2.1 }
 have ZV : ∀ t, bK (dS st x A l) t = bK st t := by
   intro t; unfold bK; rw [zw]
   by_cases e : t = st.length - 1
   · rw [if_pos e]; cases nth st t <;> rfl
   · rw [if_neg e]
     by_cases e2 : t = x.a
     · rw [if_pos e2]; cases nth st t <;> rfl
     · rw [if_neg e2]
 have other : ∀ s k B, bI c w s k B → ¬ (s = x.a ∧ k = x.j) → s ≠ P → bI c1 w s k B := by
   intro s k B hB hn hsP; refine hB.go gj.stays (Fl s k hsP) (fun kb hk => ⟨rfl, Cz.nL ?_⟩)
   rintro ⟨h1, _⟩
   rw [hk] at h1; injection h1 with h1; injection h1 with e1 e2; exact hn ⟨e1, e2⟩
 have aeU : Rel w0 mu c1 (dS st x A l) a w := {
   eI := fun t => by rw [ZV]; exact gj.mr (h.eI t)
   boxes := fun s sl cs hs lV => by
     have : ∃ Th, nth st s = some Th ∧ Th.box = some cs := by
       rw [zw] at hs
       by_cases e : s = st.length - 1
       · rw [if_pos e] at hs; obtain ⟨z, hz, rfl⟩ := Option.map_eq_some_iff.1 hs; exact ⟨z, hz, lV⟩
       · rw [if_neg e] at hs
         by_cases e2 : s = x.a
         · rw [if_pos e2] at hs; obtain ⟨z, hz, rfl⟩ := Option.map_eq_some_iff.1 hs; exact ⟨z, hz, lV⟩
         · rw [if_neg e2] at hs; exact ⟨sl, hs, lV⟩
     obtain ⟨Th, iE, Ul⟩ := this; have Ca := h.boxes s Th cs iE Ul; refine Ca.go gj rfl (Cz.nL ?_) rfl
     rintro ⟨h1, _⟩
     rw [Ca.1] at h1
     cases h1
   aK := fun s k sl B hs hB => by
     rw [zw] at hs
     by_cases e : s = st.length - 1
     · rw [if_pos e] at hs; obtain ⟨z, hz, rfl⟩ := Option.map_eq_some_iff.1 hs; simp only at hB; rw [fL, List.getElem?_map] at hB
       cases hy : l[k]? with
       | none => rw [hy] at hB; cases hB
       | some y =>
         rw [hy] at hB; simp only [Option.map_some, Option.some.injEq] at hB; subst hB; obtain ⟨v, r1, r2, r3, r4⟩ := UM k y hy; have es : s = P := e; rw [es]; unfold bI; rw [O5]; rcases r4 with ⟨e4, e5⟩ | ⟨b', off, JB, e4, ⟨q1, q2⟩, q3, q4, q5⟩
         · rw [e4]; exact e5
         · rw [e4]; refine ⟨Cz.H5 MG q1 hy (q := []) q2, q3, q4, ?_⟩; unfold bm; show match (bif y.q.dN then Md.dp else Md.sh) with | .sh => _ | .dp => _ | .ho _ => _
           cases O6 : y.q.dN with
           | false => exact fun i z hz => fN.HA _ _ _ _ _ z O6 (q5 i z hz)
           | true =>
             refine ⟨fun k => (gg k).drop 2, by show List.drop 2 (gg b') = []; rw [q2]; rfl, fun i z hz => fN.go _ _ [i] (fun q kb hk => ⟨rfl, Cz.H5 MG hk.1 hy (q := [i] ++ q) (by rw [hk.2]; simp), by show List.drop 2 (gg kb) = _; rw [hk.2]; simp⟩) _ _ _ z rfl (q5 i z hz)⟩
     · rw [if_neg e] at hs
       by_cases e2 : s = x.a
       · rw [if_pos e2] at hs; obtain ⟨z, hz, rfl⟩ := Option.map_eq_some_iff.1 hs; simp only at hB; rw [dn] at hB
         by_cases e3 : k = x.j
         · rw [if_pos e3] at hB; subst e2 e3; rw [Tl] at hz
           cases hz
           rw [ZS] at hB; simp only [Option.map_some, Option.some.injEq] at hB; subst hB; unfold bI at dQ ⊢; rw [Fl _ _ e, gV]; rw [gV] at dQ; obtain ⟨h0, h2, h3, _⟩ := dQ; refine ⟨?_, h2, h3, fun _ => ⟨gg, Li, fun i' z hq hz => fN.go _ [i'] [i'] (fun q kb hk => ⟨rfl, (Cz.nL (by
             rintro ⟨_, y, q', _, hg⟩
             rw [hk.2] at hg; injection hg with e' _; exact hq e')).trans hk.1, hk.2⟩) _ _ _ z rfl (uU i' z hz)⟩⟩
           show match A.own with | true => _ | false => _
           rw [eW]; show c1.own b = _; rw [Cz.nL]
           · exact hb
           · rintro ⟨_, y, q, _, hq⟩
             rw [Li] at hq
             cases hq
         · rw [if_neg e3] at hB; exact other s k B (h.aK s k z B hz hB) (fun hh => e3 hh.2) e
       · rw [if_neg e2] at hs; exact other s k B (h.aK s k sl B hs hB) (fun hh => e2 hh.1) e
   owned := fun kb lb hk => by
     rcases Cz.JT hk with h1 | ⟨h1, n, rfl⟩
     · exact h.owned kb lb h1
     · obtain ⟨g1, g2⟩ := h.owned kb _ h1; exact ⟨g1, .inr (g2.resolve_left (by simp))⟩
   free := fun kb bN hk => h.free kb bN (Cz.vO.1 hk)
   kept := h.kept
   old := h.old
   plain := h.plain
   dJ := fun p hp => gj.dJ (h.dJ p hp) }
 refine ⟨c1, gg, b, o, cap, aeU, gj, ⟨gV, by rw [Fl _ _ fe]; exact gV, hb, Li, uU, fun k hk hq => ?_, fun n y hn => ?_, ?_⟩, ?_⟩
 · show c1.own k = _; rw [Cz.nL]
   · exact hk
   · rintro ⟨_, y, q, hy, hq'⟩
     exact hq y hy q hq'
 · obtain ⟨v, r1, r2, r3, _⟩ := UM n y hn; refine ⟨v, r1, r2, by rw [O5]; exact r3, ?_⟩; obtain ⟨v', nv⟩ := qN y (List.mem_of_getElem? hn); obtain ⟨_, z, _, MH⟩ := O2 y (List.mem_of_getElem? hn) v' nv; exact H4 _ _ _ MH
 · obtain ⟨z, O4, _⟩ := JU; exact (List.getElem?_eq_some_iff.1 O4).1
 · -- Js values Oh YG jV
   have cell : ∀ cv v, jw c st w cv v → (∀ a j g e i k q ys, cv = .oU a j g e i k q ys → (⟨a, j, g, e, i, k, q, ys⟩ : Dr) ∈ l) → jw c1 (dS st x A l) w (Uj (st.length - 1) (nw st (st.length - 1) + 1) l cv) v := by
     intro cv v hv hm
     cases cv with
     | oU a j g e i k q ys =>
       have hy := hm _ _ _ _ _ _ _ _ rfl; obtain ⟨n, hn⟩ := List.mem_iff_getElem?.1 hy; have O7 : posOf k 0 l = n := H3 MG hn; show jw c1 (dS st x A l) w (.ref P (posOf k 0 l) (nw st P + 1) .full) v; rw [O7]; obtain ⟨v', r1, r2, r3, _⟩ := UM n _ hn; have hvv := (O2 _ hy v hv).1; rw [r1] at hvv
       cases hvv
       refine ⟨r2, by rw [ZT, hgP]; exact Nat.le_refl _, fun B hB => ?_⟩; obtain ⟨sl, k1, k2, k3⟩ := ba hB; rw [zw, if_pos rfl] at k1; obtain ⟨z, hz, rfl⟩ := Option.map_eq_some_iff.1 k1; simp only at k3; rw [fL, List.getElem?_map, hn] at k3; simp only [Option.map_some, Option.some.injEq] at k3; subst k3; rw [O5]; exact r3
     | _ => exact gj.Ox hv
   intro m hm v hv; obtain ⟨pm, mv⟩ := m
   cases pm with
   | io => cases mv with
     | one cv =>
       exact cell cv v hv (fun a j g e i k q ys e1 => by rw [hl]; subst e1; exact Fk hm)
     | _ => exact gj.mr hv
   | bB => cases mv with
     | agg cs =>
       obtain ⟨vs, rfl, hL⟩ := hv; refine ⟨vs, rfl, by rw [List.length_map]; exact hL.1, fun i y u hy hu => ?_⟩; rw [List.getElem?_map] at hy; obtain ⟨y0, ZR, rfl⟩ := Option.map_eq_some_iff.1 hy; exact cell y0 u (hL.2 i y0 u ZR hu) (fun a j g e i k q ys e1 => by rw [hl]; subst e1; exact BB (List.mem_of_getElem? ZR) hm)
     | _ => exact gj.mr hv
   | _ => cases mv <;> exact gj.mr hv
end Go.TM
namespace Go.TM
open Go Go.RowKit
theorem Rel.clear {w0 : World} {mu : Mu} {c : Cz} {st : St} {a : Act} {w : World} (h : Rel w0 mu c st a w) (P : Nat) : Rel w0 mu c (mq (fun s => { s with aK := [], ep := s.ep + 1 }) st P) a w ∧ Fw c st w c (mq (fun s => { s with aK := [], ep := s.ep + 1 }) st P) w := by
 have hn : ∀ s, nth (mq (fun s => { s with aK := [], ep := s.ep + 1 }) st P) s = if s = P then (nth st s).map (fun z => { z with aK := [], ep := z.ep + 1 }) else nth st s := fun s => dn _ _ _ _
 generalize mq (fun s => { s with aK := [], ep := s.ep + 1 }) st P = aP at hn ⊢; have gj : Fw c st w c aP w := {
   stays := iW.refl w _
   refs := fun a' j' g' A' _ dQ => by
     obtain ⟨sl, k1, k2, k3⟩ := ba dQ; rw [hn] at k1
     by_cases e : a' = P
     · rw [if_pos e] at k1; obtain ⟨z, hz, rfl⟩ := Option.map_eq_some_iff.1 k1; simp [nth] at k3
     · rw [if_neg e] at k1; exact ⟨A', ob k1 k2 k3, rfl, rfl, rfl, fun _ => ⟨rfl, fun _ _ _ _ => rfl⟩⟩
   B8 := fun b' g' mA _ lV => by
     refine ⟨⟨mA, ?_⟩, rfl⟩; unfold di at lV ⊢; rw [hn] at lV
     by_cases e : b' = P
     · rw [if_pos e] at lV
       cases hz : nth st b' with
       | none => rw [hz] at lV; cases lV
       | some z => rw [hz] at lV; exact lV
     · rw [if_neg e] at lV; exact lV
   gA := fun s => by
     unfold cQ; rw [hn]
     by_cases e : s = P
     · rw [if_pos e]; cases nth st s <;> simp
     · rw [if_neg e]; exact Nat.le_refl _
   gB := fun s => by
     unfold fM; rw [hn]
     by_cases e : s = P
     · rw [if_pos e]; cases nth st s <;> simp
     · rw [if_neg e]; exact Nat.le_refl _
   gE := fun s => by
     unfold lT; rw [hn]
     by_cases e : s = P
     · rw [if_pos e]; cases nth st s <;> simp
     · rw [if_neg e]; exact Nat.le_refl _ }
 refine ⟨{
   eI := fun t => by
     have : bK aP t = bK st t := by
       unfold bK; rw [hn]
       by_cases e : t = P
       · rw [if_pos e]; cases nth st t <;> rfl
       · rw [if_neg e]
     rw [this]; exact gj.mr (h.eI t)
   boxes := fun s sl cs hs hb => by
     rw [hn] at hs
     by_cases e : s = P
     · rw [if_pos e] at hs; obtain ⟨z, hz, rfl⟩ := Option.map_eq_some_iff.1 hs; exact (h.boxes s z cs hz hb).go gj rfl rfl rfl
     · rw [if_neg e] at hs; exact (h.boxes s sl cs hs hb).go gj rfl rfl rfl
   aK := fun s j sl A hs hA => by
     rw [hn] at hs
     by_cases e : s = P
     · rw [if_pos e] at hs; obtain ⟨z, hz, rfl⟩ := Option.map_eq_some_iff.1 hs; simp [nth] at hA
     · rw [if_neg e] at hs; exact h.aK s j sl A hs hA
   owned := h.owned
   free := h.free
   kept := h.kept
   old := h.old
   plain := h.plain
   dJ := fun p hp => gj.dJ (h.dJ p hp) }, gj⟩
theorem Rel.swap {w0 : World} {mu : Mu} {c : Cz} {st : St} {a : Act} {w : World} (h : Rel w0 mu c st a w) {s j g : Nat} {H B : gP} (hH : aQ st s j g = some H) (hw : B.r.width = H.r.width) (hn : B.xs.length = H.xs.length) (hB : bI c w s j B) :
   Rel w0 mu (c.dP id c.bx c.lc) (bo st s j (some B)) a w := by
 have gj : Fw c st w (c.dP id c.bx c.lc) (bo st s j (some B)) w := Av (.inl hH) (fun _ e => by cases e; exact ⟨hw, hn⟩) id; have hX : ke (fun _ => False) w0 mu c st a w := ⟨h.eI, fun s sl cs _ => h.boxes s sl cs, fun s j sl A _ => h.aK s j sl A, h.owned, h.free, h.kept, h.old, h.plain, h.dJ⟩; refine (hX.dP qL gj (fun t => by rw [vK]; exact gj.mr (h.eI t)) (fun k sl cs _ hs hb => ?_) (fun k i sl A _ hs hA => ?_)).rel
 · obtain ⟨f, hf, hk⟩ := gF st s j (some B) k; rw [hk] at hs
   cases hx : nth st k with
   | none => rw [hx] at hs; simp at hs
   | some x =>
     rw [hx] at hs; simp at hs; subst hs; rw [(hf x).2.1] at hb; exact (h.boxes k x cs hx hb).dP qL gj rfl
 · obtain ⟨f, hf, hk⟩ := gF st s j (some B) k; rw [hk] at hs
   cases hx : nth st k with
   | none => rw [hx] at hs; simp at hs
   | some x =>
     rw [hx] at hs; simp at hs; subst hs; rw [(hf x).2.2.2.2.1 i] at hA
     by_cases e : k = s ∧ i = j
     · rw [if_pos e] at hA; obtain ⟨rfl, rfl⟩ := e
       cases hq : nth x.aK i with
       | none => simp [hq] at hA
       | some A1 =>
         simp only [hq, Option.map_some, Option.some.injEq] at hA; subst hA; exact hB.dP qL rfl
     · rw [if_neg e] at hA; exact (h.aK k i x A hx hA).dP qL rfl
def iK (w : World) (P : List Nat → Nat → Prop) (K : Nat → Prop) : (r : RT) → (p : List Nat) → (k : Nat) → List Value → ar r → Prop
 | .nil, _, _, vs, _ => vs = []
 | .cons t r, p, k, vs, x => ∃ v l, vs = v :: l ∧ (¬ K k → de w P t (p ++ [k]) v x.1) ∧ iK w P K r p (k + 1) l x.2
theorem iK.of {w w' : World} {P P' : List Nat → Nat → Prop} {K : Nat → Prop} : (r : RT) → (p : List Nat) → (hP : ∀ k q b, ¬ K k → P (p ++ [k] ++ q) b → w'.heap[b]? = w.heap[b]? ∧ P' (p ++ [k] ++ q) b) → (k : Nat) → (vs : List Value) → (x : ar r) → dg w P r p k vs x → iK w' P' K r p k vs x
 | .nil, _, _, _, _, _, h => h
 | .cons t r, p, hP, k, vs, x, h => by
   obtain ⟨v, l, e, h1, h2⟩ := h; exact ⟨v, l, e, fun hk => de.go t (p ++ [k]) (p ++ [k]) (fun q b hb => hP k q b hk hb) v x.1 h1, iK.of r p hP (k + 1) l x.2 h2⟩
theorem iK.full {w : World} {P : List Nat → Nat → Prop} {K : Nat → Prop} (hK : ∀ k, ¬ K k) : (r : RT) → (p : List Nat) → (k : Nat) → (vs : List Value) → (x : ar r) → iK w P K r p k vs x → dg w P r p k vs x
 | .nil, _, _, _, _, h => h
 | .cons t r, p, k, vs, x, h => by
   obtain ⟨v, l, e, h1, h2⟩ := h; exact ⟨v, l, e, h1 (hK k), iK.full hK r p (k + 1) l x.2 h2⟩
theorem iK.mono {w : World} {P : List Nat → Nat → Prop} {K K' : Nat → Prop} : (r : RT) → (p : List Nat) → (k : Nat) → (hK : ∀ c, k ≤ c → K c → K' c) → (vs : List Value) → (x : ar r) → iK w P K r p k vs x → iK w P K' r p k vs x
 | .nil, _, _, _, _, _, h => h
 | .cons t r, p, k, hK, vs, x, h => by
   obtain ⟨v, l, e, h1, h2⟩ := h; exact ⟨v, l, e, fun hk => h1 fun h => hk (hK k (Nat.le_refl _) h), iK.mono r p (k + 1) (fun c hc => hK c (by omega)) l x.2 h2⟩
theorem iK.set {w : World} {P : List Nat → Nat → Prop} {q : RT} {ys : List (ar q)} {v : Value} : {K : Nat → Prop} → (r : RT) → (p : List Nat) → (k0 : Nat) → (vs : List Value) → (x : ar r) → (col : Nat) → {z : ar r} → iK w P K r p k0 vs x → mB r x col q ys = some z → vs[col]? = some v → de w P (.sl q) (p ++ [k0 + col]) v ys →
   iK w P (fun c => K c ∧ c ≠ k0 + col) r p k0 vs z
 | _, .nil, _, _, _, _, _, _, _, h, _, _ => by simp [mB] at h
 | K, .cons t r, p, k0, vs, x, 0, z, hx, h, hv, hd => by
   obtain ⟨v', l, rfl, h1, h2⟩ := hx
   cases t with
   | sl q' =>
     have h : (bw q' ys).map (fun zs => ((zs, x.2) : ar (.cons (.sl q') r))) = some z := h; obtain ⟨zs, UO, hz⟩ := Option.map_eq_some_iff.1 h; obtain ⟨e, rfl⟩ := a7 UO; subst e; subst hz; simp only [List.getElem?_cons_zero, Option.some.injEq] at hv; subst hv; exact ⟨v', l, rfl, fun _ => hd, iK.mono r p (k0 + 1) (fun c hc hK => ⟨hK, by omega⟩) l x.2 h2⟩
   | int _ => simp [mB] at h
   | bool => simp [mB] at h
   | str => simp [mB] at h
 | K, .cons t r, p, k0, vs, x, col + 1, z, hx, h, hv, hd => by
   obtain ⟨v', l, rfl, h1, h2⟩ := hx; have h' : (mB r x.2 col q ys).map (fun z => ((x.1, z) : ar (.cons t r))) = some z := by cases t <;> exact h
   obtain ⟨z', hz', hz⟩ := Option.map_eq_some_iff.1 h'; subst hz; have := iK.set r p (k0 + 1) l x.2 col h2 hz' (by simpa using hv) (by rw [show k0 + 1 + col = k0 + (col + 1) by omega]; exact hd); refine ⟨v', l, rfl, fun hk => h1 fun h => hk ⟨h, by omega⟩, ?_⟩
   rwa [show k0 + 1 + col = k0 + (col + 1) by omega] at this
theorem JV {w : World} {P : List Nat → Nat → Prop} {p : List Nat} {v : Value} {r s : RT} {xs : List (ar r)} {ys : List (ar s)} (h : bw s xs = some ys) (hd : de w P (.sl r) p v xs) : de w P (.sl s) p v ys := by
 obtain ⟨e, rfl⟩ := a7 h; subst e; exact hd
theorem Db {st : St} {P g : Nat} {r : RT} {w : World} {PP : List Nat → Nat → Prop} {p : List Nat} {vs : List Value} : (n : Nat) → (l : List Dr) → (z : ar r) → {z' : ar r} → tp st P g r n l z = some z' →
   (∀ m y, l[m]? = some y → ∀ B, aQ st P (n + m) g = some B → B.own = true → B.md = y.q.md → B.r = y.q → ∃ v, vs[y.k]? = some v ∧ de w PP (.sl B.r) (p ++ [y.k]) v B.xs) →
   iK w PP (fun c => ∃ y ∈ l, y.k = c) r p 0 vs z → dg w PP r p 0 vs z'
 | n, [], z, z', h, _, hx => by
   simp only [tp, Option.some.injEq] at h; subst h; exact iK.full (by simp) _ _ _ _ _ hx
 | n, y :: l, z, z', h, hy, hx => by
   unfold tp at h
   cases hB : aQ st P n g with
   | none => rw [hB] at h; cases h
   | some B =>
     rw [hB] at h; obtain ⟨h1, h2⟩ := aH h; clear h; rw [Bool.and_eq_true] at h1
     cases hc : bw y.q B.xs with
     | none => rw [hc] at h2; cases h2
     | some ys =>
       rw [hc] at h2; simp only at h2
       cases hr : mB r z y.k y.q ys with
       | none => rw [hr] at h2; cases h2
       | some z1 =>
         rw [hr] at h2; simp only at h2; obtain ⟨e, he⟩ := a7 hc; obtain ⟨v, hv, hd⟩ := hy 0 y rfl B hB h1.1 (Md.lS.1 h1.2) e; have JW : de w PP (.sl y.q) (p ++ [0 + y.k]) v ys := by
           rw [Nat.zero_add]; exact JV hc hd
         refine Db (n + 1) l z1 h2 (fun m y' hm B' Ew => hy (m + 1) y' (by simpa using hm) B' (by rw [show n + (m + 1) = n + 1 + m by omega]; exact Ew)) ?_; have := iK.set _ _ _ _ _ _ hx hr hv JW; refine iK.mono _ _ _ (fun c _ hc => ?_) _ _ this; obtain ⟨⟨y', Q4, e'⟩, fe⟩ := hc; rcases List.mem_cons.1 Q4 with rfl | Q4
         · exact absurd e'.symm (by omega)
         · exact ⟨y', Q4, e'⟩
theorem O8 {w0 : World} {mu : Mu} {c c1 c5 : Cz} {st gD aP : St} {a2 : Act} {w w' : World} {x : Dr} {A : gP} {l : List Dr} {gg : Nat → List Nat} {b o cap : Nat} (fe : x.a ≠ st.length - 1) (JF : aQ st x.a x.j x.g = some A) (eW : A.own = true) (xi : A.md = .dp)
   (hA : bI c w x.a x.j A) (MG : Gn (l.map (·.k)) = true) (Et : Tk c c1 st w x A l gg b o cap) (h5 : Rel w0 mu c5 gD a2 w') (gj : Fw c1 (dS st x A l) w c5 gD w')
   (N9 : ∀ k, c1.own k = some (.sp x.a x.j) → w'.heap[k]? = w.heap[k]? ∧ c5.own k = some (.sp x.a x.j))
   (hv : (Jy (st.length - 1) (nw st (st.length - 1) + 1) x A l gD).val = some aP) : ∃ c6, Rel w0 mu c6 aP a2 w' := by
 unfold Jy at hv
 cases hH : aQ gD x.a x.j x.g with
 | none => rw [hH] at hv; cases hv
 | some H =>
   rw [hH] at hv; simp only at hv; obtain ⟨_, hv⟩ := dv hv
   cases hz : A.xs[x.i]? with
   | none => rw [hz] at hv; cases hv
   | some z =>
     rw [hz] at hv; have hv : (match tp gD (st.length - 1) (nw st (st.length - 1) + 1) A.r 0 l z with
       | some z' => N.done (bo (mq (fun s => { s with aK := [], ep := s.ep + 1 }) gD (st.length - 1)) x.a x.j (some (A.put (A.xs.set x.i z'))))
       | none => .fail).val = some aP := hv
     cases hj : tp gD (st.length - 1) (nw st (st.length - 1) + 1) A.r 0 l z with
     | none => rw [hj] at hv; cases hv
     | some z' =>
       rw [hj] at hv; simp only [N.val, Option.some.injEq] at hv; subst hv; obtain ⟨P, hP⟩ : ∃ P, P = st.length - 1 := ⟨_, rfl⟩; rw [← hP] at fe hj ⊢; have OI := fe; rw [hP] at OI; have zw := vP (A := A) (l := l) OI; rw [← hP] at zw; obtain ⟨sla, Tl, ha2, ZS⟩ := ba JF; have hgA : x.g ≤ cQ (dS st x A l) x.a := by
         unfold cQ; rw [zw, if_neg fe, if_pos rfl, Tl]; show x.g ≤ sla.ag; omega
       have hfa : ∀ B0, aQ (dS st x A l) x.a x.j x.g = some B0 → B0.r.width = A.r.width ∧ B0.xs.length = A.xs.length := by
         intro B0 hB0; obtain ⟨sl, k1, k2, k3⟩ := ba hB0; rw [zw, if_neg fe, if_pos rfl, Tl] at k1; simp only [Option.map_some, Option.some.injEq] at k1; subst k1; simp only at k3; rw [dn, if_pos rfl, ZS] at k3; simp only [Option.map_some, Option.some.injEq] at k3; subst k3; exact ⟨rfl, rfl⟩
       obtain ⟨B0, q1, q2, q3, q4, _⟩ := gj.refs x.a x.j x.g H hgA hH; obtain ⟨e1, e2⟩ := hfa B0 q1; have aeX : c5.lc x.a x.j = .at b o cap := q4.trans Et.lc1; have hPs : ∀ n B, aQ gD P n (nw st P + 1) = some B → ∃ y, l[n]? = some y ∧ B.xs.length = y.ys.length ∧ B.r.width = y.q.width ∧ c5.lc P n = c1.lc P n := by
         intro n B hB; have hgP : nw st P + 1 ≤ cQ (dS st x A l) P := by
           unfold cQ; rw [zw, if_pos rfl]; have UN : P < st.length := by have := Gq Tl; omega
           have : nth st P = some st[P] := by rw [fL]; exact List.getElem?_eq_getElem UN
           rw [this]; unfold nw; rw [this]; exact Nat.le_refl _
         obtain ⟨B1, r1, r2, r3, r4, _⟩ := gj.refs P n _ B hgP hB; obtain ⟨sl, k1, k2, k3⟩ := ba r1; rw [zw, if_pos rfl] at k1; obtain ⟨zz, O9, rfl⟩ := Option.map_eq_some_iff.1 k1; simp only at k3; rw [fL, List.getElem?_map] at k3
         cases hy : l[n]? with
         | none => rw [hy] at k3; cases k3
         | some y =>
           rw [hy] at k3; simp only [Option.map_some, Option.some.injEq] at k3; subst k3; exact ⟨y, rfl, r3, r2, r4⟩
       have hG : ∃ G : Nat → Nat → List Nat, ∀ n B y, aQ gD P n (nw st P + 1) = some B → B.own = true → B.md = B.r.md → l[n]? = some y → ∀ v, v.oneCell' = true → je (c5.lc P n) B.r.width 0 B.xs.length v →
           ∀ (PP : List Nat → Nat → Prop) (p : List Nat), (∀ k, c5.own k = some (.sp P n) → PP (p ++ G n k) k) → de w' PP (.sl B.r) p v B.xs := by
         have : ∀ n, ∃ G : Nat → List Nat, ∀ B y, aQ gD P n (nw st P + 1) = some B → B.own = true → B.md = B.r.md → l[n]? = some y → ∀ v, v.oneCell' = true → je (c5.lc P n) B.r.width 0 B.xs.length v →
           ∀ (PP : List Nat → Nat → Prop) (p : List Nat), (∀ k, c5.own k = some (.sp P n) → PP (p ++ G k) k) → de w' PP (.sl B.r) p v B.xs := by
           intro n
           by_cases e : ∃ B, aQ gD P n (nw st P + 1) = some B ∧ B.own = true ∧ B.md = B.r.md
           · obtain ⟨B, hB, ho, hm⟩ := e
             by_cases e2 : ∃ v : Value, v.oneCell' = true ∧ je (c5.lc P n) B.r.width 0 B.xs.length v
             · obtain ⟨v, yR, JR⟩ := e2; obtain ⟨g, hg⟩ := OD (h5.sH hB) ho hm; refine ⟨g, fun B' y Ew _ _ _ v' h1 h2 PP p hP' => ?_⟩; rw [hB] at Ew
               cases Ew
               exact hg v' h1 h2 PP p hP'
             · refine ⟨fun _ => [], fun B' y Ew _ _ _ v' h1 h2 => ?_⟩; rw [hB] at Ew
               cases Ew
               exact absurd ⟨v', h1, h2⟩ e2
           · exact ⟨fun _ => [], fun B' y Ew h1 h2 => absurd ⟨B', Ew, h1, h2⟩ e⟩
         obtain ⟨G, hG⟩ := Classical.axiomOfChoice this; exact ⟨G, fun n => hG n⟩
       obtain ⟨G, hG⟩ := hG; have RK : ∃ g6 : Nat → List Nat, (∀ k, c5.own k = some (.sp x.a x.j) → g6 k = gg k) ∧ ∀ n y k, l[n]? = some y → c5.own k = some (.sp P n) → g6 k = [x.i] ++ [y.k] ++ G n k := by
         have key : ∀ k, ∃ q : List Nat, (c5.own k = some (.sp x.a x.j) → q = gg k) ∧ ∀ n y, l[n]? = some y → c5.own k = some (.sp P n) → q = [x.i] ++ [y.k] ++ G n k := by
           intro k
           by_cases e : ∃ n y, l[n]? = some y ∧ c5.own k = some (.sp P n)
           · obtain ⟨n, y, f1, f2⟩ := e; refine ⟨[x.i] ++ [y.k] ++ G n k, fun h => ?_, fun n' y' h1 h2 => ?_⟩
             · rw [f2] at h; injection h with h; injection h with h _; exact absurd h.symm fe
             · rw [f2] at h2; injection h2 with h2; injection h2 with _ h2; subst h2; rw [f1] at h1
               cases h1
               rfl
           · exact ⟨gg k, fun _ => rfl, fun n y h1 h2 => absurd ⟨n, y, h1, h2⟩ e⟩
         obtain ⟨g6, h⟩ := Classical.axiomOfChoice key; exact ⟨g6, fun k => (h k).1, fun n y k => (h k).2 n y⟩
       obtain ⟨g6, UP, aeY⟩ := RK; obtain ⟨oT, al1⟩ := h5.clear P; have OG : ∀ n ∈ (List.range l.length).map (fun n => (P, n)), ∀ sl B, nth (mq (fun s => { s with aK := [], ep := s.ep + 1 }) gD P) n.1 = some sl → nth sl.aK n.2 ≠ some (some B) := by
         intro n hn sl B hs; obtain ⟨m, _, rfl⟩ := List.mem_map.1 hn; rw [dn, if_pos rfl] at hs; obtain ⟨zz, _, rfl⟩ := Option.map_eq_some_iff.1 hs; simp [nth]
       have hrl := oT.iY OG x.a x.j; have zh : ∀ n y, l[n]? = some y → (P, n) ∈ (List.range l.length).map (fun n => (P, n)) := fun n y hn => List.mem_map.2 ⟨n, List.mem_range.2 (List.getElem?_eq_some_iff.1 hn).1, rfl⟩
       have Pb : ∀ k, c5.own k = some (.sp x.a x.j) → (c5.iY ((List.range l.length).map (fun n => (P, n))) (.sp x.a x.j)).own k = some (.sp x.a x.j) := by
         intro k hk; rw [Cz.nI]
         · exact hk
         · intro n hn e; obtain ⟨m, _, rfl⟩ := List.mem_map.1 hn; rw [hk] at e; injection e with e; injection e with e _; exact fe e
       have hH' : aQ (mq (fun s => { s with aK := [], ep := s.ep + 1 }) gD P) x.a x.j x.g = some H := by
         obtain ⟨sl, k1, k2, k3⟩ := ba hH; exact ob (by rw [dn, if_neg fe]; exact k1) k2 k3
       have MI : c1.own b = some (.sp x.a x.j) := Et.stay b Et.own (fun y _ q e => by rw [Et.g0] at e; cases e); obtain ⟨ZW, hb5⟩ := N9 b MI; have OF : ∀ (i : Nat) zz, (A.xs.set x.i z')[i]? = some zz → fN w' (fun p k => (c5.iY ((List.range l.length).map (fun n => (P, n))) (.sp x.a x.j)).own k = some (.sp x.a x.j) ∧ g6 k = p) A.r [i] 0 b (o + i * A.r.width) zz := by
         intro i zz O9; rw [List.getElem?_set] at O9
         by_cases e : x.i = i
         · subst e; rw [if_pos rfl, if_pos Et.len] at O9
           cases O9
           obtain ⟨vs, r1, r2⟩ := (jE _ _ _ _ _ _).1 (Et.rows x.i z hz); have yQ := dg.length _ _ _ _ _ r2; refine (jE _ _ _ _ _ _).2 ⟨vs, fun k v hkv => by rw [World.cell?_of_block (w := w) ZW]; exact r1 k v hkv, ?_⟩; refine Db 0 l z hj (fun m y hm B hB Zy UA hBr => ?_) ?_
           · rw [Nat.zero_add] at hB; obtain ⟨v, u1, u2, u3, u4⟩ := Et.out m y hm; obtain ⟨y', f1, f2, f3, f4⟩ := hPs m B hB; rw [hm] at f1
             cases f1
             have hk : y.k < vs.length := by rw [yQ]; exact u4
             have hvk : vs[y.k]? = some vs[y.k] := List.getElem?_eq_getElem hk; have := r1 y.k _ hvk; rw [u1] at this; refine ⟨v, by rw [hvk, ← Option.some.inj this], ?_⟩; refine hG m B y hB Zy (by rw [UA, hBr]) hm v u2 (by rw [f4, f2, f3, hP]; exact u3) _ _ (fun k hk => ⟨Cz.mG (zh m y hm) hk, ?_⟩); exact aeY m y k hm hk
           · refine iK.of _ [x.i] (fun k q kb hK hk => ?_) 0 vs z r2; have qn := Et.stay kb hk.1 (fun y hy q' e => hK ⟨y, hy, by
               have h2 := hk.2; rw [e] at h2; simp at h2; exact h2.1⟩)
             obtain ⟨f1, f2⟩ := N9 kb qn; exact ⟨f1, Pb kb f2, by rw [UP kb f2]; exact hk.2⟩
         · rw [if_neg e] at O9; refine fN.go _ [i] [i] (fun q kb hk => ?_) _ _ _ zz ZW (Et.rows i zz O9); have qn := Et.stay kb hk.1 (fun y _ q' e' => e (by
             have h2 := hk.2; rw [e'] at h2; simp at h2; exact h2.1))
           obtain ⟨f1, f2⟩ := N9 kb qn; exact ⟨f1, Pb kb f2, by rw [UP kb f2]; exact hk.2⟩
       refine ⟨_, hrl.swap hH' (B := A.put (A.xs.set x.i z')) (by rw [q2, e1]; rfl) (by rw [q3, e2]; show (A.xs.set x.i z').length = _; simp) ?_⟩; unfold bI at hA ⊢; show match c5.lc x.a x.j with | .nil => _ | .at b off cap => _
       rw [aeX]; rw [Et.lc] at hA; obtain ⟨_, g2, ⟨cur, ty, g3, g4⟩, _⟩ := hA; refine ⟨?_, by show (A.xs.set x.i z').length ≤ cap; simpa using g2, ⟨cur, ty, by rw [ZW]; exact g3, g4⟩, ?_⟩
       · show match A.own with | true => _ | false => _
         rw [eW]; exact Pb b hb5
       · unfold bm; show match A.md with | .sh => _ | .dp => _ | .ho _ => _
         rw [xi]; exact ⟨g6, by rw [UP b hb5]; exact Et.g0, OF⟩
theorem Lv {α β : Type} (f : α → β) : (l : List α) → (n : Nat) → nth (l.map f) n = (nth l n).map f
 | [], _ => rfl
 | _ :: _, 0 => rfl
 | _ :: l, n + 1 => Lv f l n
theorem oH (st : St) (s : Nat) : nth (tu st) s = (nth st s).map (Tb st) := Lv _ _ _
theorem Fm (st : St) (a j g : Nat) : aQ (tu st) a j g = aQ st a j g := by
 unfold aQ; rw [oH]
 cases nth st a <;> rfl
theorem Fo (st : St) (a : Nat) : cQ (tu st) a = cQ st a := by
 unfold cQ; rw [oH]
 cases nth st a <;> rfl
theorem Fp (st : St) (a : Nat) : fM (tu st) a = fM st a := by
 unfold fM; rw [oH]
 cases nth st a <;> rfl
theorem Pc (st : St) (a : Nat) : lT (tu st) a = lT st a := by
 unfold lT; rw [oH]
 cases nth st a <;> rfl
theorem Fq (st : St) (b g : Nat) : di (tu st) b g = (di st b g).map fun cs => cs.map (Bl st) := by
 unfold di; rw [oH]
 cases nth st b with
 | none => rfl
 | some x =>
   show (bif Nat.beq x.bg g then x.box.map _ else none) = _; simp only
   cases Nat.beq x.bg g <;> rfl
theorem Fw.tu (c : Cz) (st : St) (w : World) : Fw c st w c (tu st) w where
 stays := iW.refl w _
 refs a j g A' _ dQ := by
   rw [Fm] at dQ; exact ⟨A', dQ, rfl, rfl, rfl, fun _ => ⟨rfl, fun _ _ _ _ => rfl⟩⟩
 B8 b g mA _ h := by
   rw [Fq] at h; obtain ⟨cs, h1, _⟩ := Option.map_eq_some_iff.1 h; exact ⟨⟨cs, h1⟩, rfl⟩
 gA a := by rw [Fo]; exact Nat.le_refl _
 gB a := by rw [Fp]; exact Nat.le_refl _
 gE a := by rw [Pc]; exact Nat.le_refl _
theorem H6 {w0 : World} {mu : Mu} {c : Cz} {st : St} {a : Act} {w : World} (h : Rel w0 mu c st a w) {x : CV} {v : Value} (hr : jw c st w x v) : jw c st w (Bl st x) v := by
 unfold Bl
 split
 · split
   · rename_i A hA
     cases ho : A.own with
     | true => exact hr
     | false =>
       cases hm : A.md.is .sh with
       | false => exact hr
       | true =>
         have hm := Md.lS.1 hm; exact yW (h.sH hA) (hr.2.2 A hA) (ok := c.ok) (fun b h => h) (fun b q => by
           rcases q with q | q
           · rw [ho] at q; cases q
           · rw [hm] at q; cases q) (by rw [hm]; rfl)
   · exact hr
 · exact hr
theorem H7 {w0 : World} {mu : Mu} {c : Cz} {st : St} {a : Act} {w : World} (h : Rel w0 mu c st a w) {cs : List CV} {vs : List Value} (hr : eH c st w cs vs) : eH c (tu st) w (cs.map (Bl st)) vs := by
 refine ⟨by rw [List.length_map]; exact hr.1, fun i x v h1 h2 => ?_⟩; rw [List.getElem?_map] at h1; obtain ⟨y, hy, rfl⟩ := Option.map_eq_some_iff.1 h1; exact (Fw.tu c st w).Ox (H6 h (hr.2 i y v hy h2))
theorem Pd {w0 : World} {mu : Mu} {c : Cz} {st : St} {a : Act} {w : World} (h : Rel w0 mu c st a w) {x : V} {v : Value} (hr : dU c st w x v) : dU c (tu st) w (Ov st x) v := by
 cases x with
 | one x => exact (Fw.tu c st w).Ox (H6 h hr)
 | agg cs =>
   obtain ⟨vs, h1, h2⟩ := hr; exact ⟨vs, h1, H7 h h2⟩
 | mz us => exact (Fw.tu c st w).mr hr
theorem Rel.tu {w0 : World} {mu : Mu} {c : Cz} {st : St} {a : Act} {w : World} (h : Rel w0 mu c st a w) : Rel w0 mu c (tu st) a w where
 eI t := by
   have e : bK (Go.TM.tu st) t = Ov st (bK st t) := by
     unfold bK; rw [oH]
     cases nth st t <;> rfl
   rw [e]; exact Pd h (h.eI t)
 boxes s sl cs hs hb := by
   rw [oH] at hs; obtain ⟨x, hx, rfl⟩ := Option.map_eq_some_iff.1 hs; have hb : x.box.map (fun cs => cs.map (Bl st)) = some cs := hb; obtain ⟨N7, hc, rfl⟩ := Option.map_eq_some_iff.1 hb; obtain ⟨k1, vs, ty, k2, k3⟩ := h.boxes s x N7 hx hc; exact ⟨k1, vs, ty, k2, H7 h k3⟩
 aK s j sl A hs hb := by
   rw [oH] at hs; obtain ⟨x, hx, rfl⟩ := Option.map_eq_some_iff.1 hs; exact h.aK s j x A hx hb
 owned := h.owned
 free := h.free
 kept := h.kept
 old := h.old
 plain := h.plain
 dJ p hp := by
   have h0 := h.dJ p hp
   cases p with
   | arr a j g W n l =>
     refine ⟨by rw [Fo]; exact h0.1, fun A hA => ?_⟩; rw [Fm] at hA; exact h0.2 A hA
   | box b g nB =>
     refine ⟨by rw [Fp]; exact h0.1, fun cs tz => ?_⟩; rw [Fq] at tz; obtain ⟨N7, hc, _⟩ := Option.map_eq_some_iff.1 tz; exact h0.2 N7 hc
theorem H8 {w0 : World} {mu : Mu} {c : Cz} {st : St} {a : Act} {w : World} (ms : List (Pm × V)) (h : Rel w0 mu c st a w) : Rel w0 mu c (Bm ms st) a w ∧ ∀ x v, dU c st w x v → dU c (Bm ms st) w x v := by
 unfold Bm
 cases ms.any (fun m => m.1.Ow)
 · exact ⟨h, fun _ _ hr => hr⟩
 · exact ⟨h.tu, fun _ _ hr => (Fw.tu c st w).mr hr⟩
theorem H9 {P : Program} {S : ju} (hS : l5 P S) {w0 : World} {mu : Mu} {c : Cz} {st aP : St} {a : Act} {w : World} (h : Rel w0 mu c st a w) {o : Oper} {f : FuncId} {vals : Array Value} {xs : List V}
   (oE : ∀ fn, P.funcs[f]? = some fn → fn.name ≠ "runtime.NumGoroutine" → fn.body ≠ none → (execOp a.eval o).run P w = .ok (.enter f vals) w)
   (Lh : xs.length = vals.toList.length) (ZX : ∀ (k : Nat) (m : V) (x : Value), xs[k]? = some m → vals.toList[k]? = some x → dU c st w m x)
   (hv : (E3 S st o.dst f xs).val = some aP) (hd : ∀ k, o.dst = some k → k < a.tmps.size) : vH P w0 mu aP o a w (qm S st f xs) := by
 unfold qm; unfold E3 at hv
 cases hf : S f with
 | none => simp [hf, N.val] at hv
 | some p =>
   obtain ⟨m1, m2, m3, Bk⟩ := p; simp only [hf] at hv ⊢; obtain ⟨MD, fn, Pe, aeZ, ZY⟩ := hS f m1 m2 m3 Bk hf; have oE := oE fn Pe (by simpa using aeZ) (by intro e; rw [e] at ZY; cases ZY); have UQ := MC m1 m2 m3 xs; generalize uS m1 m2 m3 xs = ms at hv UQ ⊢; have hlen : ms.length = vals.toList.length := by
     have := congrArg List.length UQ; rw [List.length_map] at this; omega
   have vM : ∀ (k : Nat) (m : Pm × V) (x : Value), ms[k]? = some m → vals.toList[k]? = some x → dU c st w m.2 x := by
     intro k m x hm hx; have h1 : (ms.map (·.2))[k]? = some m.2 := by rw [List.getElem?_map, hm]; rfl
     rw [UQ] at h1; exact ZX k m.2 x h1 hx
   have hR := h.freeze (CA st ms); have BC : ∀ (k : Nat) (m : Pm × V) (x : Value), ms[k]? = some m → vals.toList[k]? = some x → dU (c.drop (CA st ms)) (freeze st (CA st ms)) w m.2 x := fun k m x h1 h2 => (Fw.freeze w _ c st).mr (vM k m x h1 h2)
   generalize freeze st (CA st ms) = ZZ at hv hR BC ⊢; generalize c.drop (CA st ms) = c0 at hR BC; have BC : ∀ (k : Nat) (m : Pm × V) (x : Value), ms[k]? = some m → vals.toList[k]? = some x → dU c0 (Bm ms ZZ) w m.2 x := fun k m x h1 h2 => (H8 ms hR).2 _ _ (BC k m x h1 h2)
   have hR := (H8 ms hR).1; generalize Bm ms ZZ = vL at hv hR BC ⊢; unfold Ta at hv
   cases rJ : lG vL ms with
   | none =>
     rw [rJ] at hv; exact H0 hR oE MD hlen BC hv hd (fun h => h) (fun c5 gD a2 w' hr _ _ GF => by
       simp only [N.val, Option.some.injEq] at GF; subst GF; exact ⟨c5, hr⟩)
   | some p =>
     obtain ⟨x, A, l⟩ := p; rw [rJ] at hv; simp only at hv ⊢; have Z0 : ∀ m ∈ ms, ∃ v, dU c0 vL w m.2 v := by
       intro m hm; obtain ⟨k, hk⟩ := List.mem_iff_getElem?.1 hm; have bN : k < vals.toList.length := by rw [← hlen]; exact (List.getElem?_eq_some_iff.1 hk).1
       exact ⟨_, BC k m _ hk (List.getElem?_eq_getElem bN)⟩
     obtain ⟨c1, gg, b, oo, cap, UR, hF1, Et, Ia⟩ := vO hR rJ Z0; obtain ⟨hl, hA, eW, xi, hep, qK, MG, fe⟩ := zv rJ; refine H0 UR oE MD (by rw [List.length_map]; exact hlen) (fun k m v h1 h2 => ?_) hv hd (fun h => by cases h) (fun c5 gD a2 w' hr hf N9 GF => ?_)
     · rw [List.getElem?_map] at h1; obtain ⟨m0, hm0, rfl⟩ := Option.map_eq_some_iff.1 h1; exact Ia m0 (List.mem_of_getElem? hm0) v (BC k m0 v hm0 h2)
     · refine O8 fe hA eW xi (hR.sH hA) MG Et hr hf (fun k hk => ?_) GF; have EC : ¬ vN (dS vL x A l) (x.a, x.j) := by
         rintro ⟨g', B, hB, UA⟩
         obtain ⟨sl, k1, k2, k3⟩ := ba hB; rw [vP fe, if_neg fe, if_pos rfl] at k1; obtain ⟨zz, O9, rfl⟩ := Option.map_eq_some_iff.1 k1; simp only at k3; rw [dn, if_pos rfl] at k3
         cases hq : nth zz.aK x.j with
         | none => rw [hq] at k3; cases k3
         | some B2 =>
           rw [hq] at k3; simp only [Option.map_some, Option.some.injEq] at k3; subst k3
           cases UA
       cases hex : iI (dS vL x A l) (ms.map (Rq (vL.length - 1) (nw vL (vL.length - 1) + 1) l)) with
       | none =>
         unfold Ht at hv; rw [hex] at hv
         cases hv
       | some pp =>
         obtain ⟨dt, u, q, r⟩ := pp; obtain ⟨l1, l2⟩ := BA _ hex; exact N9 dt u q r hex k _ rfl (fun hm => EC (l1 _ _ hm)) (fun p hp e => by
           injection e with e1 e2; exact EC (by rw [e1, e2]; exact l2 p hp)) hk
theorem Pf {P : Program} {S : ju} (hS : l5 P S) {w0 : World} {mu : Mu} {c : Cz} {st aP : St} {a : Act} {w : World} (h : Rel w0 mu c st a w) {o : Oper} {f : FuncId} {args : Array Operand} {Mt : Array TypeId} (ho : o.op = .call { callee := .value (.func f), args := args, argTypes := Mt })
   (hv : (E3 S st o.dst f (args.toList.map (lz st))).val = some aP) (hd : ∀ k, o.dst = some k → k < a.tmps.size) : vH P w0 mu aP o a w (kindOk S st o .one) := by
 have hq0 : kindOk S st o .one = qm S st f (args.toList.map (lz st)) := by unfold kindOk; simp only [ho]
 rw [hq0]; refine H9 (vals := args.map a.eval) hS h (fun fn Pe q2 q3 => ?_) (by simp) (fun k m x hm hx => ?_) hv hd
 · simp only [execOp, ho]; simp [resolve, Act.eval, Deferred.ofValue, invoke, callFunc, Sem.run_bind, Pe, q2, q3]
 · rw [List.getElem?_map] at hm; rw [Array.toList_map, List.getElem?_map] at hx
   cases hy : args.toList[k]? with
   | none => rw [hy] at hm; simp at hm
   | some y =>
     rw [hy] at hm hx; simp only [Option.map_some, Option.some.injEq] at hm hx; rw [← hm, ← hx]; exact bh h y
theorem Pg {P : Program} {S : ju} (hS : l5 P S) {w0 : World} {mu : Mu} {c : Cz} {st aP : St} {a : Act} {w : World} (h : Rel w0 mu c st a w) {o : Oper} {t g : Nat} {rs : RT} {xs : List (ar rs)} {x : ar rs} {args : Array Operand} {Mt : Array TypeId} (ho : o.op = .call { callee := .value (.tmp t), args := args, argTypes := Mt })
   (ht : bK st t = .one (.fn g rs xs)) (OA : xs[0]? = some x) (hv : (E3 S st o.dst g (args.toList.map (lz st) ++ uT rs x)).val = some aP) (hd : ∀ k, o.dst = some k → k < a.tmps.size) : vH P w0 mu aP o a w (kindOk S st o .one) := by
 have hq0 : kindOk S st o .one = qm S st g (args.toList.map (lz st) ++ uT rs x) := by unfold kindOk; simp only [ho, ht, OA]
 rw [hq0]; have MD := h.eI t; rw [ht] at MD; obtain ⟨vt, e, Z1⟩ := MD; obtain ⟨k1, k2⟩ := HL (st := st) rs vt.toList x (Z1 x OA); refine H9 (vals := args.map a.eval ++ vt) hS h (fun fn Pe q2 q3 => ?_) (by simp [k1]) (fun k m y hm hy => ?_) hv hd
 · simp only [execOp, ho]; simp [resolve, e, Deferred.ofValue, invoke, callFunc, Sem.run_bind, Pe, q2, q3]
 · rw [Array.toList_append] at hy
   by_cases hk : k < args.size
   · rw [List.getElem?_append_left (by simpa using hk)] at hm hy; rw [List.getElem?_map] at hm; rw [Array.toList_map, List.getElem?_map] at hy
     cases hz : args.toList[k]? with
     | none => rw [hz] at hm; simp at hm
     | some z =>
       rw [hz] at hm hy; simp only [Option.map_some, Option.some.injEq] at hm hy; rw [← hm, ← hy]; exact bh h z
   · rw [List.getElem?_append_right (by simp; omega)] at hm hy; simp only [List.length_map, Array.length_toList, Array.toList_map] at hm hy; exact k2 _ m y hm hy
theorem JX {P : Program} {T : ki} (hT : fI P T) {S : ju} {w0 : World} {mu : Mu} {c : Cz} {st aP : St} {a : Act} {w : World} (h : Rel w0 mu c st a w) {o : Oper} (rJ : Hu st o = true)
   (hv : (Jk T S st o).val = some aP) (hd : ∀ k, o.dst = some k → k < a.tmps.size) : vH P w0 mu aP o a w (kindOk S st o .one) := by
 unfold Hu at rJ
 cases ho : o.op with
 | call cl =>
   obtain ⟨callee, args, Mt⟩ := cl; rw [ho] at rJ
   cases callee with
   | builtin b =>
     cases b with
     | append =>
       unfold Jk at hv; simp only [ho] at hv rJ
       split at hv
       · contradiction
       · rename_i x y t u _ ha ht; obtain ⟨UG, yR⟩ := dv hv; have UG := Nat.eq_of_beq_eq_true UG; subst UG; have ha : args = #[x, y] := by rw [← Array.toArray_toList (xs := args), ha]
         have ht : Mt = #[t, t] := by rw [← Array.toArray_toList (xs := Mt), ht]
         subst ha ht; have rJ : (lG st [(.io, lz st x)]).isSome = true := rJ; obtain ⟨p, hp⟩ := Option.isSome_iff_exists.1 rJ; obtain ⟨z, A, l⟩ := p; unfold Gp at yR; rw [hp] at yR; obtain ⟨c1, gg, b, oo, cap, UR, hF1, Et, Ia⟩ := vO h hp (fun m hm => by
           rw [List.mem_singleton] at hm; subst hm; exact ⟨_, bh h x⟩)
         have hx := Ia _ (List.mem_singleton.2 rfl) _ (bh h x); have hy := hF1.mr (bh h y); obtain ⟨v, w', h1, c', h2⟩ := CQ (ty := o.type) hT UR hx hy yR hd; exact tG (c' := c') (by simp only [execOp, ho]; simp [resolve, invoke, builtin, Sem.run_bind, h1]) h2 (fun hk => by simp [kindOk, ho] at hk)
       all_goals (first | contradiction | (simp [N.val] at hv))
     | _ => simp at rJ
   | _ => simp at rJ
 | _ => rw [ho] at rJ; simp at rJ
theorem pT {P : Program} {T : ki} (hT : fI P T) (hE : u9 P T) {S : ju} (hS : l5 P S) (w0 : World) (mu : Mu) (n : Nat) : rS P T S w0 mu n := by
 intro c st aP a w o h hn hd hv; have JW : ∀ k, o.dst = some k → k < a.tmps.size := fun k hk => by rw [hn]; exact hd k hk
 by_cases hf : Op.JO o.op = true
 · cases ho : o.op with
   | call cl =>
     obtain ⟨callee, args, Mt⟩ := cl
     cases callee with
     | value x =>
       cases x with
       | func f =>
         unfold Jk at hv; simp only [ho] at hv; exact Pf hS h ho hv JW
       | tmp t =>
         unfold Jk at hv; simp only [ho] at hv
         split at hv
         · rename_i g rs xs ht
           cases OA : xs[0]? with
           | none => simp [OA, N.val] at hv
           | some x =>
             simp only [OA] at hv; exact Pg hS h ho ht OA hv JW
         · simp [N.val] at hv
       | _ => rw [ho] at hf; simp [Op.JO] at hf
     | _ => rw [ho] at hf; simp [Op.JO] at hf
   | _ => rw [ho] at hf; simp [Op.JO] at hf
 · cases rJ : Hu st o with
   | false => exact UF hT hE h (by simpa using hf) rJ hv JW
   | true => exact JX hT h rJ hv JW
end Go.TM
namespace Go.TM
open Go Go.RowKit
inductive OP where
 | int (k : IntKind)
 | bool
 | str
 | own (r : RT) (d : Md := .sh)
 | shr (r : RT)
 | lf (r : RT)
 | fn (g : Nat) (rs : RT)
inductive AP where
 | val (agg : Bool) (ps : List OP)
 | io (r : RT) (d : Md := .sh)
 | box (Gk : Bool) (ps : List OP)
 | bB (ps : List OP)
def OP.ty : OP → Ty
 | .int k => .int k
 | .bool => .bool
 | .str => .str
 | .own r _ => .sl r
 | .shr r => .sl r
 | .lf r => .sl r
 | .fn _ rs => .sl rs
def OP.nz : OP → Bool
 | .own _ _ => true
 | _ => false
def lB : List OP → RT → RT
 | [], t => t
 | p :: ps, t => .cons p.ty (lB ps t)
def AP.rt : AP → RT → RT
 | .val _ ps, t => lB ps t
 | .io r _, t => .cons (.sl r) t
 | .box _ ps, t => lB ps t
 | .bB ps, t => lB ps t
def aE : List (Option AP) → RT
 | [] => .nil
 | none :: l => aE l
 | some p :: l => p.rt (aE l)
def OP.ov : (p : OP) → den p.ty → OV
 | .int k, n => .int k n
 | .bool, b => .bool b
 | .str, s => .str s
 | .own r d, xs => .own { r := r, own := true, xs := xs, md := d }
 | .shr r, xs => .shr r xs
 | .lf r, xs => .lf r xs
 | .fn g rs, xs => .fn g rs xs
def dq : (ps : List OP) → (t : RT) → ar (lB ps t) → List OV × ar t
 | [], _, x => ([], x)
 | p :: ps, t, x => (p.ov x.1 :: (dq ps t x.2).1, (dq ps t x.2).2)
def AP.av : (p : AP) → (t : RT) → ar (p.rt t) → AV × ar t
 | .val agg ps, t, x => (.val agg (dq ps t x).1, (dq ps t x).2)
 | .io r d, _, x => (.io { r := r, own := true, xs := x.1, md := d }, x.2)
 | .box _ ps, t, x => (.box (dq ps t x).1, (dq ps t x).2)
 | .bB ps, t, x => (.bB (dq ps t x).1, (dq ps t x).2)
def bW : (l : List (Option AP)) → ar (aE l) → List (Option AV)
 | [], _ => []
 | none :: l, x => none :: bW l x
 | some p :: l, x => some (p.av (aE l) x).1 :: bW l (p.av (aE l) x).2
def qO : (p : OP) → OV → Option (den p.ty)
 | .int k, .int l n => if k = l then some n else none
 | .bool, .bool b => some b
 | .str, .str s => some s
 | .own r d, .own A => bif A.md.is d then bw r A.xs else none
 | .own _ _, .dD => some ([] : List _)
 | .shr r, .shr _ xs => bw r xs
 | .shr _, .dD => some ([] : List _)
 | .lf r, .lf _ xs => bw r xs
 | .fn g rs, .fn f _ xs => bif Nat.beq f g then bw rs xs else none
 | _, _ => none
def cX : (ps : List OP) → (t : RT) → List OV → ar t → Option (ar (lB ps t))
 | [], _, [], y => some y
 | p :: ps, t, o :: os, y => match qO p o, cX ps t os y with
   | some x, some z => some (x, z)
   | _, _ => none
 | _, _, _, _ => none
def Fs : (p : AP) → (t : RT) → AV → ar t → Option (ar (p.rt t))
 | .val true ps, t, .val true os, y => cX ps t os y
 | .val false ps, t, .val false os, y => cX ps t os y
 | .io r d, _, .io A, y => bif A.md.is d then (match bw r A.xs with
   | some xs => some (xs, y)
   | none => none) else none
 | .box _ ps, t, .box os, y => cX ps t os y
 | .bB ps, t, .bB os, y => cX ps t os y
 | _, _, _, _ => none
def eJ : (l : List AP) → List AV → Option (ar (aE (l.map some)))
 | [], [] => some ()
 | p :: l, a :: as => match eJ l as with
   | some y => Fs p (aE (l.map some)) a y
   | none => none
 | _, _ => none
def ky (st : St) : (ps : List OP) → (t : RT) → List CV → ar t → Option (ar (lB ps t) × List (Option Lb) × List (Nat × Nat))
 | [], _, [], y => some (y, [], [])
 | p :: ps, t, c :: cs, y => match fy st p.nz c, ky st ps t cs y with
   | some (o, u, r), some (z, us, rs) => match qO p o with
     | some x => some ((x, z), u :: us, r ++ rs)
     | none => none
   | _, _ => none
 | _, _, _, _ => none
def BD (st : St) (k : Nat) : (p : AP) → (t : RT) → V → ar t → Option (ar (p.rt t) × List Lb × List (Nat × Nat))
 | .val agg ps, t, v, y =>
   match agg, v with
   | true, .agg cs => (ky st ps t cs y).map fun q => (q.1, bF q.2.1, q.2.2)
   | false, .one c => (ky st ps t [c] y).map fun q => (q.1, bF q.2.1, q.2.2)
   | _, _ => none
 | .io r d, _, v, y =>
   match v with
   | .one (.ref a j g .full) => bif Nat.beq a k && (Nat.beq j 0 && Nat.beq g 1) then ((aQ st a j g).bind fun A => bif A.own && A.md.is d then (bw r A.xs).map fun xs => ((xs, y), [.sp a j], []) else none) else none
   | _ => none
 | .box Gk ps, t, v, y =>
   match v with
   | .one (.ptr b g off) => bif Nat.beq off 0 && (!Gk || (Nat.beq b k && Nat.beq g 1)) then ((di st b g).bind fun cs => (ky st ps t cs y).map fun q => (q.1, .box b :: bF q.2.1, q.2.2)) else none
   | _ => none
 | .bB _, _, _, _ => none
def mI (st : St) : (k : Nat) → (l : List (Option AP)) → Option (ar (aE l) × List Lb × List (Nat × Nat))
 | _, [] => some ((), [], [])
 | k, none :: l => mI st (k + 1) l
 | k, some p :: l => match mI st (k + 1) l with
   | some (y, us, rs) => match BD st k p (aE l) (bK st k) y with
     | some (x, u, r) => some (x, u ++ us, r ++ rs)
     | none => none
   | none => none
def Sl.blank : Sl := { v := .one .bad, box := .none, bg := 1, aK := [], ag := 1 }
def cM (k : Nat) : Option AV → Sl
 | none => Sl.blank
 | some (.bB os) => { v := .agg (aV k 1 0 os), box := none, bg := 1, aK := aY os, ag := 1 }
 | some (.val true os) => { v := .agg (aV k 1 0 os), box := none, bg := 1, aK := aY os, ag := 1 }
 | some (.val false os) => { v := match aV k 1 0 os with | [c] => .one c | _ => .one .bad, box := none, bg := 1, aK := aY os, ag := 1 }
 | some (.io A) => { v := .one (.ref k 0 1 .full), box := none, bg := 1, aK := [some A], ag := 1 }
 | some (.box os) => { v := .one (.ptr k 1 0), box := some (aV k 1 0 os), bg := 1, aK := aY os, ag := 1 }
def nC : (k : Nat) → List (Option AV) → St
 | _, [] => []
 | k, a :: l => cM k a :: nC (k + 1) l
theorem Ft : (l : List (Option AV)) → (k i : Nat) → nth (nC k l) i = (l[i]?).map (cM (k + i))
 | [], _, _ => by simp [nC]
 | a :: l, k, 0 => by simp [nC, nth]
 | a :: l, k, i + 1 => by
   simp only [nC, nth, List.getElem?_cons_succ]; rw [Ft l (k + 1) i, show k + 1 + i = k + (i + 1) by omega]
theorem Ib {c : Cz} {w : World} {f : Nat → Lb} {j : Nat} : (p : OP) → (o : OV) → (x : den p.ty) → qO p o = some x → {os zn : List OV} → {vs : List Value} → (∀ l, bc c w f (j + 1) os l → bc c w f (j + 1) zn l) → bc c w f j (o :: os) vs → bc c w f j (p.ov x :: zn) vs
 | .int k, .int l n, x, hx, os, zn, vs, sq, h => by
   have hx : (if k = l then some (n : Int) else none) = some (x : Int) := hx
   by_cases e : k = l
   · rw [if_pos e] at hx; have hx : n = x := Option.some.inj hx; obtain ⟨l', h1, h2⟩ := h; exact ⟨l', by rw [h1, e, hx], sq _ h2⟩
   · rw [if_neg e] at hx
     cases hx
 | .bool, .bool b, x, hx, os, zn, vs, sq, h => by
   have hx : b = x := Option.some.inj hx; subst hx; obtain ⟨l', h1, h2⟩ := h; exact ⟨l', h1, sq _ h2⟩
 | .str, .str b, x, hx, os, zn, vs, sq, h => by
   have hx : b = x := Option.some.inj hx; subst hx; obtain ⟨l', h1, h2⟩ := h; exact ⟨l', h1, sq _ h2⟩
 | .own r d, .own A, x, hx, os, zn, vs, sq, h => by
   obtain ⟨v, l', h1, ⟨lc, h2⟩, h3⟩ := h; have hx : (bif A.md.is d then bw r A.xs else none) = some x := hx; obtain ⟨hd, hx⟩ := aH hx; have hd := Md.lS.1 hd; obtain ⟨e, rfl⟩ := a7 hx; obtain ⟨r0, JJ, oX, UB⟩ := A; simp only at e hd; subst e hd; have ho : JJ = true := h2.2.2.1; subst ho; exact ⟨v, l', h1, ⟨lc, h2⟩, sq _ h3⟩
 | .own r _, .dD, x, hx, os, zn, vs, sq, h => by
   have hx : ([] : List (ar r)) = x := Option.some.inj hx; subst hx; obtain ⟨l', h1, h2⟩ := h; exact ⟨_, l', h1, ⟨.nil, rfl, ⟨rfl, rfl⟩, rfl, rfl⟩, sq _ h2⟩
 | .shr r, .shr q xs, x, hx, os, zn, vs, sq, h => by
   obtain ⟨v, l', h1, h2, h3⟩ := h; have hx : bw r xs = some x := hx; obtain ⟨e, rfl⟩ := a7 hx; subst e; exact ⟨v, l', h1, h2, sq _ h3⟩
 | .shr r, .dD, x, hx, os, zn, vs, sq, h => by
   have hx : ([] : List (ar r)) = x := Option.some.inj hx; subst hx; obtain ⟨l', h1, h2⟩ := h; exact ⟨_, l', h1, (nA _ _ _ _ _).2 (.inl ⟨rfl, rfl⟩), sq _ h2⟩
 | .lf r, .lf q xs, x, hx, os, zn, vs, sq, h => by
   obtain ⟨v, l', h1, h2, h3⟩ := h; have hx : bw r xs = some x := hx; obtain ⟨e, rfl⟩ := a7 hx; subst e; exact ⟨v, l', h1, h2, sq _ h3⟩
 | .fn g r, .fn f q xs, x, hx, os, zn, vs, sq, h => by
   obtain ⟨v, l', h1, h2, h3⟩ := h; have hx : (bif Nat.beq f g then bw r xs else none) = some x := hx; obtain ⟨hfg, hx⟩ := aH hx; have hfg := Nat.eq_of_beq_eq_true hfg; subst hfg; obtain ⟨e, rfl⟩ := a7 hx; subst e; exact ⟨v, l', h1, h2, sq _ h3⟩
 | .int _, .bool _, _, hx, _, _, _, _, _ => by cases hx
 | .int _, .str _, _, hx, _, _, _, _, _ => by cases hx
 | .int _, .own _, _, hx, _, _, _, _, _ => by cases hx
 | .int _, .shr _ _, _, hx, _, _, _, _, _ => by cases hx
 | .int _, .dD, _, hx, _, _, _, _, _ => by cases hx
 | .int _, .lf _ _, _, hx, _, _, _, _, _ => by cases hx
 | .int _, .fn _ _ _, _, hx, _, _, _, _, _ => by cases hx
 | .bool, .int _ _, _, hx, _, _, _, _, _ => by cases hx
 | .bool, .str _, _, hx, _, _, _, _, _ => by cases hx
 | .bool, .own _, _, hx, _, _, _, _, _ => by cases hx
 | .bool, .shr _ _, _, hx, _, _, _, _, _ => by cases hx
 | .bool, .dD, _, hx, _, _, _, _, _ => by cases hx
 | .bool, .lf _ _, _, hx, _, _, _, _, _ => by cases hx
 | .bool, .fn _ _ _, _, hx, _, _, _, _, _ => by cases hx
 | .str, .int _ _, _, hx, _, _, _, _, _ => by cases hx
 | .str, .bool _, _, hx, _, _, _, _, _ => by cases hx
 | .str, .own _, _, hx, _, _, _, _, _ => by cases hx
 | .str, .shr _ _, _, hx, _, _, _, _, _ => by cases hx
 | .str, .dD, _, hx, _, _, _, _, _ => by cases hx
 | .str, .lf _ _, _, hx, _, _, _, _, _ => by cases hx
 | .str, .fn _ _ _, _, hx, _, _, _, _, _ => by cases hx
 | .own _ _, .int _ _, _, hx, _, _, _, _, _ => by cases hx
 | .own _ _, .bool _, _, hx, _, _, _, _, _ => by cases hx
 | .own _ _, .str _, _, hx, _, _, _, _, _ => by cases hx
 | .own _ _, .shr _ _, _, hx, _, _, _, _, _ => by cases hx
 | .own _ _, .lf _ _, _, hx, _, _, _, _, _ => by cases hx
 | .own _ _, .fn _ _ _, _, hx, _, _, _, _, _ => by cases hx
 | .shr _, .int _ _, _, hx, _, _, _, _, _ => by cases hx
 | .shr _, .bool _, _, hx, _, _, _, _, _ => by cases hx
 | .shr _, .str _, _, hx, _, _, _, _, _ => by cases hx
 | .shr _, .own _, _, hx, _, _, _, _, _ => by cases hx
 | .shr _, .lf _ _, _, hx, _, _, _, _, _ => by cases hx
 | .shr _, .fn _ _ _, _, hx, _, _, _, _, _ => by cases hx
 | .lf _, .int _ _, _, hx, _, _, _, _, _ => by cases hx
 | .lf _, .bool _, _, hx, _, _, _, _, _ => by cases hx
 | .lf _, .str _, _, hx, _, _, _, _, _ => by cases hx
 | .lf _, .own _, _, hx, _, _, _, _, _ => by cases hx
 | .lf _, .shr _ _, _, hx, _, _, _, _, _ => by cases hx
 | .lf _, .dD, _, hx, _, _, _, _, _ => by cases hx
 | .lf _, .fn _ _ _, _, hx, _, _, _, _, _ => by cases hx
 | .fn _ _, .int _ _, _, hx, _, _, _, _, _ => by cases hx
 | .fn _ _, .bool _, _, hx, _, _, _, _, _ => by cases hx
 | .fn _ _, .str _, _, hx, _, _, _, _, _ => by cases hx
 | .fn _ _, .own _, _, hx, _, _, _, _, _ => by cases hx
 | .fn _ _, .shr _ _, _, hx, _, _, _, _, _ => by cases hx
 | .fn _ _, .dD, _, hx, _, _, _, _, _ => by cases hx
 | .fn _ _, .lf _ _, _, hx, _, _, _, _, _ => by cases hx
theorem sP {c : Cz} {w : World} {f : Nat → Lb} : (ps : List OP) → (t : RT) → (os : List OV) → (y : ar t) → {x : ar (lB ps t)} → cX ps t os y = some x → (dq ps t x).2 = y ∧ ∀ (j : Nat) (vs : List Value), bc c w f j os vs → bc c w f j (dq ps t x).1 vs
 | [], t, [], y, x, h => by
   have h : y = x := Option.some.inj h; subst h; exact ⟨rfl, fun _ _ h => h⟩
 | [], _, _ :: _, _, _, h => by simp [cX] at h
 | _ :: _, _, [], _, _, h => by simp [cX] at h
 | p :: ps, t, o :: os, y, x, h => by
   unfold cX at h
   cases h1 : qO p o with
   | none => simp [h1] at h
   | some a =>
     cases h2 : cX ps t os y with
     | none => simp [h1, h2] at h
     | some z =>
       simp only [h1, h2] at h; have h : (a, z) = x := Option.some.inj h; subst h; obtain ⟨g1, g2⟩ := sP (c := c) (w := w) (f := f) ps t os y h2; exact ⟨g1, fun j vs hh => Ib p o a h1 (fun l => g2 (j + 1) l) hh⟩
theorem bc.Ph {c : Cz} {w : World} {f : Nat → Lb} : (os : List OV) → (j : Nat) → (vs : List Value) → bc c w f j os vs → vs.length = os.length ∧ ∀ (k : Nat) (o : OV) (u : Value), os[k]? = some o → vs[k]? = some u → bc c w f (j + k) [o] [u]
 | [], j, vs, h => by
   subst h; exact ⟨rfl, fun k o u h => by simp at h⟩
 | o :: os, j, vs, h => by
   obtain ⟨v, l, rfl, h1, h2⟩ : ∃ v l, vs = v :: l ∧ bc c w f j [o] [v] ∧ bc c w f (j + 1) os l := by
     cases o with
     | int k n => obtain ⟨l, h1, h2⟩ := h; exact ⟨_, l, h1, ⟨[], rfl, rfl⟩, h2⟩
     | bool b => obtain ⟨l, h1, h2⟩ := h; exact ⟨_, l, h1, ⟨[], rfl, rfl⟩, h2⟩
     | str b => obtain ⟨l, h1, h2⟩ := h; exact ⟨_, l, h1, ⟨[], rfl, rfl⟩, h2⟩
     | dD => obtain ⟨l, h1, h2⟩ := h; exact ⟨_, l, h1, ⟨[], rfl, rfl⟩, h2⟩
     | shr r xs => obtain ⟨v, l, h1, h2, h3⟩ := h; exact ⟨v, l, h1, ⟨v, [], rfl, h2, rfl⟩, h3⟩
     | lf r xs => obtain ⟨v, l, h1, h2, h3⟩ := h; exact ⟨v, l, h1, ⟨v, [], rfl, h2, rfl⟩, h3⟩
     | fn g r xs => obtain ⟨v, l, h1, h2, h3⟩ := h; exact ⟨v, l, h1, ⟨v, [], rfl, h2, rfl⟩, h3⟩
     | own A => obtain ⟨v, l, h1, h2, h3⟩ := h; exact ⟨v, l, h1, ⟨v, [], rfl, h2, rfl⟩, h3⟩
   obtain ⟨g1, g2⟩ := bc.Ph os (j + 1) l h2; refine ⟨by simp [g1], fun k o' u ho hu => ?_⟩
   cases k with
   | zero =>
     simp only [List.getElem?_cons_zero, Option.some.injEq] at ho hu; subst ho hu; exact h1
   | succ k =>
     have := g2 k o' u (by simpa using ho) (by simpa using hu)
     rwa [show j + 1 + k = j + (k + 1) by omega] at this
theorem Fu : (ps : List OP) → (t : RT) → (os : List OV) → (y : ar t) → {x : ar (lB ps t)} → cX ps t os y = some x → ∀ (k : Nat) (o' : OV), (dq ps t x).1[k]? = some o' → ∃ (p : OP) (o : OV) (z : den p.ty), os[k]? = some o ∧ qO p o = some z ∧ o' = p.ov z
 | [], t, [], y, x, h => by
   intro k o' hk; simp [dq] at hk
 | [], _, _ :: _, _, _, h => by simp [cX] at h
 | _ :: _, _, [], _, _, h => by simp [cX] at h
 | p :: ps, t, o :: os, y, x, h => by
   unfold cX at h
   cases h1 : qO p o with
   | none => simp [h1] at h
   | some a =>
     cases h2 : cX ps t os y with
     | none => simp [h1, h2] at h
     | some z =>
       simp only [h1, h2] at h; have h : (a, z) = x := Option.some.inj h; subst h; intro k o' hk
       cases k with
       | zero =>
         have hk : some (p.ov a) = some o' := hk; simp only [Option.some.injEq] at hk; exact ⟨p, o, a, rfl, h1, hk.symm⟩
       | succ k =>
         have hk : (dq ps t z).1[k]? = some o' := hk; obtain ⟨p', o1, z', q1, q2, q3⟩ := Fu ps t os y h2 k o' hk; exact ⟨p', o1, z', by simpa using q1, q2, q3⟩
theorem MJ {p : OP} {o : OV} {z : den p.ty} (h : qO p o = some z) {A : gP} (he : p.ov z = .own A) : (∃ B, o = .own B ∧ A.r = B.r ∧ A.own = true ∧ A.xs.length = B.xs.length ∧ (B.own = true → A = B)) ∨ (o = .dD ∧ ∃ r d, A = { r := r, own := true, xs := ([] : List (ar r)), md := d }) := by
 cases p with
 | own r d =>
   injection he with he; subst he
   cases o with
   | own B =>
     have h : (bif B.md.is d then bw r B.xs else none) = some z := h; obtain ⟨hd, h⟩ := aH h; have hd := Md.lS.1 hd; obtain ⟨e, rfl⟩ := a7 h; obtain ⟨r0, JJ, oX, UB⟩ := B; simp only at e hd; subst e hd; exact .inl ⟨_, rfl, rfl, rfl, rfl, fun ho => by simp only at ho; subst ho; rfl⟩
   | dD =>
     have h : ([] : List (ar r)) = z := Option.some.inj h; subst h; exact .inr ⟨rfl, r, d, rfl⟩
   | _ => cases h
 | int _ => cases he
 | bool => cases he
 | str => cases he
 | shr _ => cases he
 | lf _ => cases he
 | fn _ _ => cases he
theorem Ic {p : OP} (z : den p.ty) : p.ov z ≠ .dD := by
 cases p <;> (intro h; cases h)
theorem Ie {c : Cz} {w : World} {i : Nat} {lc : Nat → Loc} {p : AP} {t : RT} {av : AV} {y : ar t} {x : ar (p.rt t)} (h : Fs p t av y = some x) : (p.av t x).2 = y ∧ ∀ v, rT c w i lc av v → rT c w i lc (p.av t x).1 v := by
 cases p with
 | val agg ps =>
   cases agg with
   | true =>
     cases av with
     | val RL os =>
       cases RL with
       | true =>
         have h : cX ps t os y = some x := h; obtain ⟨g1, g2⟩ := sP (c := c) (w := w) (f := .bG i) ps t os y h; exact ⟨g1, fun v ⟨vs, hv, hl⟩ => ⟨vs, hv, g2 0 _ hl⟩⟩
       | false => cases h
     | _ => cases h
   | false =>
     cases av with
     | val RL os =>
       cases RL with
       | false =>
         have h : cX ps t os y = some x := h; obtain ⟨g1, g2⟩ := sP (c := c) (w := w) (f := .bG i) ps t os y h; exact ⟨g1, fun v hl => g2 0 _ hl⟩
       | true => cases h
     | _ => cases h
 | io r d =>
   cases av with
   | io A =>
     have h : (bif A.md.is d then (match bw r A.xs with | some xs => some ((xs, y) : ar (.cons (.sl r) t)) | none => none) else none) = some x := h; obtain ⟨hd, h⟩ := aH h; have hd := Md.lS.1 hd
     cases hc : bw r A.xs with
     | none => rw [hc] at h; cases h
     | some xs =>
       rw [hc] at h
       cases h
       refine ⟨rfl, fun v hl => ?_⟩; obtain ⟨e, rfl⟩ := a7 hc; obtain ⟨r0, JJ, oX, UB⟩ := A; simp only at e hd; subst e hd; have ho : JJ = true := hl.2.2.1; subst ho; exact hl
   | _ => cases h
 | box Gk ps =>
   cases av with
   | box os =>
     have h : cX ps t os y = some x := h; obtain ⟨g1, g2⟩ := sP (c := c) (w := w) (f := .bG i) ps t os y h; exact ⟨g1, fun v ⟨nB, vs, ty, q1, q2, q3, q4⟩ => ⟨nB, vs, ty, q1, q2, q3, g2 0 _ q4⟩⟩
   | _ => cases h
 | bB ps =>
   cases av with
   | bB os =>
     have h : cX ps t os y = some x := h; obtain ⟨g1, g2⟩ := sP (c := c) (w := w) (f := .bG i) ps t os y h; refine ⟨g1, fun v ⟨vs, q1, q2, q3⟩ => ⟨vs, q1, g2 0 _ q2, fun j o u ho hu => ?_⟩⟩; obtain ⟨p, o0, z, k1, k2, rfl⟩ := Fu ps t os y h j o ho; have h0 := q3 j o0 u k1 hu; have hL := (bc.Ph os 0 _ q2).2 j o0 u k1 hu; unfold OR at h0 ⊢
     cases he : p.ov z with
     | dD => exact absurd he (Ic z)
     | own A =>
       rcases MJ k2 he with ⟨B, rfl, e1, e2, e3, e4⟩ | ⟨rfl, r, d, rfl⟩
       · have h0 : OwnAt c w (.bG i j) (lc j) B u := h0; have := e4 h0.2.2.1; subst this; exact h0
       · have h0 : lc j = .nil := h0; obtain ⟨l, hl, _⟩ := hL; injection hl with hl _; subst hl; show OwnAt c w (.bG i j) (lc j) _ _; rw [h0]; exact ⟨rfl, ⟨rfl, rfl⟩, rfl, rfl⟩
     | _ => trivial
   | _ => cases h
end Go.TM
namespace Go.TM
open Go Go.RowKit
theorem vQ {w0 : World} {mu : Mu} {c : Cz} {st : St} {a : Act} {w : World} (h : Rel w0 mu c st a w) {ρ : Lb → Option Lb} {f : Nat → Lb} : (ps : List OP) → (t : RT) → (cs : List CV) → (y : ar t) → (vs : List Value) → (j : Nat) → eH c st w cs vs → {x : ar (lB ps t)} → {u : List (Option Lb)} → {r : List (Nat × Nat)} →
   ky st ps t cs y = some (x, u, r) → (dq ps t x).2 = y ∧ (∀ l ∈ bF u, l.real = true) ∧ ((∀ k l, nth u k = some (some l) → ρ l = some (f (j + k))) → (∀ p ∈ r, ρ (.sp p.1 p.2) = none) → bc (c.map ρ) w f j (dq ps t x).1 vs)
 | [], t, [], y, vs, j, hl, x, u, r, he => by
   have he : some (y, ([] : List (Option Lb)), ([] : List (Nat × Nat))) = some (x, u, r) := he; injection he with he; injection he with e1 e2; injection e2 with e2 e3; subst e1 e2 e3; have := hl.1; simp at this; exact ⟨rfl, by simp [bF], fun _ _ => List.length_eq_zero_iff.1 this.symm⟩
 | [], t, _ :: _, y, vs, j, hl, x, u, r, he => by simp [ky] at he
 | _ :: _, t, [], y, vs, j, hl, x, u, r, he => by simp [ky] at he
 | p :: ps, t, cx :: cs, y, vs, j, hl, x, u, r, he => by
   obtain ⟨v, l, rfl, hx, xr⟩ := hl.Tg; unfold ky at he
   cases hc : fy st p.nz cx with
   | none => simp [hc] at he
   | some q1 =>
     obtain ⟨o, u1, r1⟩ := q1
     cases hq : ky st ps t cs y with
     | none => simp [hc, hq] at he
     | some q2 =>
       obtain ⟨z, us, rs⟩ := q2; simp only [hc, hq] at he
       cases ho : qO p o with
       | none => simp [ho] at he
       | some a1 =>
         simp only [ho] at he; injection he with he; injection he with e1 e2; injection e2 with e2 e3; subst e1 e2 e3; obtain ⟨g1, g2, g3⟩ := vQ h (ρ := ρ) (f := f) ps t cs y l (j + 1) xr hq; refine ⟨g1, fun l' hm => ?_, fun hu hr => ?_⟩
         · rw [gk] at hm; rcases List.mem_cons.1 hm with hm | hm
           · obtain ⟨s, k, rfl⟩ := Ff hc l' hm.symm; rfl
           · exact g2 l' (gk.2 hm)
         · have eQ := g3 (fun k' l' hk => by
             have := hu (k' + 1) l' hk
             rwa [show j + (k' + 1) = j + 1 + k' by omega] at this) (fun p hp => hr p (List.mem_append_right _ hp))
           have h1 := Lr h (f := f) (j := j) hx hc (fun l' xr => hu 0 l' (by rw [xr]; rfl)) (fun p hp => hr p (List.mem_append_left _ hp)) eQ; exact Ib p o a1 ho (fun _ h => h) h1
def AA (c : Cz) (w : World) (lc : Nat → Nat → Loc) (a : Act) (k : Nat) (l : List (Option AV)) : Prop :=
 ∀ i av, l[i]? = some (some av) → rT c w (k + i) (lc (k + i)) av (a.eval (.tmp (k + i)))
theorem zx {w0 : World} {mu : Mu} {c : Cz} {st : St} {a : Act} {w : World} (h : Rel w0 mu c st a w) (k : Nat) {p : AP} {t : RT} {V : V} {y : ar t} {v : Value} (hV : dU c st w V v) {x : ar (p.rt t)} {u : List Lb} {r : List (Nat × Nat)} (he : BD st k p t V y = some (x, u, r)) :
   (p.av t x).2 = y ∧ (∀ l ∈ u, l.real = true) ∧ ∃ tb : List (Lb × Lb), tb.map (·.1) = u ∧ (∀ p ∈ tb, p.2.jV = true) ∧ ∀ ρ : Lb → Option Lb, (∀ p ∈ tb, ρ p.1 = some p.2) → (∀ p ∈ r, ρ (.sp p.1 p.2) = none) → rT (c.map ρ) w k (c.lc k) (p.av t x).1 v := by
 have vals : ∀ (ps : List OP) (cs : List CV) (x : ar (lB ps t)) (us : List (Option Lb)) (rs : List (Nat × Nat)) (vs : List Value), eH c st w cs vs → ky st ps t cs y = some (x, us, rs) → (dq ps t x).2 = y ∧ (∀ l ∈ bF us, l.real = true) ∧
     ∀ ρ : Lb → Option Lb, (∀ p ∈ zq (.bG k) 0 us, ρ p.1 = some p.2) → (∀ p ∈ rs, ρ (.sp p.1 p.2) = none) → bc (c.map ρ) w (.bG k) 0 (dq ps t x).1 vs := by
   intro ps cs x us rs vs hl hq; refine ⟨(vQ h (ρ := fun _ => none) (f := .bG k) ps t cs y vs 0 hl hq).1, (vQ h (ρ := fun _ => none) (f := .bG k) ps t cs y vs 0 hl hq).2.1, fun ρ hp hr => (vQ h (ρ := ρ) (f := .bG k) ps t cs y vs 0 hl hq).2.2 (fun k' l hk => ?_) hr⟩; have := hp _ (vJ (.bG k) 0 us k' l hk); simpa using this
 cases p with
 | val agg ps =>
   cases agg with
   | true =>
     cases V with
     | agg cs =>
       have he : (ky st ps t cs y).map (fun q => (q.1, bF q.2.1, q.2.2)) = some (x, u, r) := he
       cases hq : ky st ps t cs y with
       | none => rw [hq] at he; cases he
       | some q =>
         obtain ⟨z, us, rs⟩ := q; rw [hq] at he; injection he with he; injection he with e1 e2; injection e2 with e2 e3; subst e1 e2 e3; obtain ⟨vs, rfl, hl⟩ := hV; obtain ⟨g1, g2, g3⟩ := vals _ _ _ _ _ _ hl hq; exact ⟨g1, g2, jx k (.val true []) [] us, lY _ _ _ _, lZ _ _ _ _, fun ρ hp hr => ⟨vs, rfl, g3 ρ (fun p ku => hp p (by simpa [jx] using ku)) hr⟩⟩
     | one _ => cases he
     | mz _ => cases he
   | false =>
     cases V with
     | one cx =>
       have he : (ky st ps t [cx] y).map (fun q => (q.1, bF q.2.1, q.2.2)) = some (x, u, r) := he
       cases hq : ky st ps t [cx] y with
       | none => rw [hq] at he; cases he
       | some q =>
         obtain ⟨z, us, rs⟩ := q; rw [hq] at he; injection he with he; injection he with e1 e2; injection e2 with e2 e3; subst e1 e2 e3; obtain ⟨g1, g2, g3⟩ := vals _ _ _ _ _ [v] ⟨rfl, fun k y z hy hz => by
           cases k with
           | zero => simp at hy hz; subst hy hz; exact hV
           | succ k => simp at hy⟩ hq
         exact ⟨g1, g2, jx k (.val true []) [] us, lY _ _ _ _, lZ _ _ _ _, fun ρ hp hr => g3 ρ (fun p ku => hp p (by simpa [jx] using ku)) hr⟩
     | agg _ => cases he
     | mz _ => cases he
 | io rr d =>
   cases V with
   | one cx =>
     cases cx with
     | ref s j g vw =>
       cases vw with
       | full =>
         have he : (bif Nat.beq s k && (Nat.beq j 0 && Nat.beq g 1) then ((aQ st s j g).bind fun A => bif A.own && A.md.is d then (bw rr A.xs).map fun xs => ((xs, y), [Lb.sp s j], ([] : List (Nat × Nat))) else none) else none) = some (x, u, r) := he; obtain ⟨h1, xj⟩ := aH he; clear he; rw [Bool.and_eq_true, Bool.and_eq_true] at h1; have e1 := Nat.eq_of_beq_eq_true h1.1; have e2 := Nat.eq_of_beq_eq_true h1.2.1; subst e1 e2
         cases hA : aQ st s 0 g with
         | none => rw [hA] at xj; cases xj
         | some A =>
           rw [hA] at xj; obtain ⟨ho, YQ⟩ := aH xj; rw [Bool.and_eq_true] at ho; have hd := Md.lS.1 ho.2; have ho := ho.1
           cases hc : bw rr A.xs with
           | none => rw [hc] at YQ; cases YQ
           | some xs =>
             rw [hc] at YQ; injection YQ with YQ; injection YQ with e1 e2; injection e2 with e2 e3; subst e1 e2 e3; refine ⟨rfl, by simp [Lb.real], [(.sp s 0, .bG s 0)], rfl, by simp [Lb.jV], fun ρ hp _ => ?_⟩; have ha := wO h hA; have hs := hV.2.2 A hA; have hρ : ρ (.sp s 0) = some (.bG s 0) := hp (.sp s 0, .bG s 0) (by simp); obtain ⟨e, rfl⟩ := a7 hc; obtain ⟨r0, JJ, oX, UB⟩ := A; simp only at e hd; subst e hd; have ho : JJ = true := by first | exact ho | exact ho.1
             subst ho; refine ⟨hV.1, hs, rfl, ?_⟩; unfold bI at ha
             cases gV : c.lc s 0 with
             | nil => rw [gV] at ha; exact ha
             | «at» b off cap =>
               rw [gV] at ha; obtain ⟨h0, h2, h3, h4⟩ := ha; exact ⟨(Cz.j4 h0).trans hρ, h2, h3, h4.map hρ⟩
       | «from» _ => cases he
       | sub _ _ => cases he
     | _ => cases he
   | agg _ => cases he
   | mz _ => cases he
 | box Gk ps =>
   cases V with
   | one cx =>
     cases cx with
     | ptr b g off =>
       have he : (bif Nat.beq off 0 && (!Gk || (Nat.beq b k && Nat.beq g 1)) then ((di st b g).bind fun cs => (ky st ps t cs y).map fun q => (q.1, Lb.box b :: bF q.2.1, q.2.2)) else none) = some (x, u, r) := he; obtain ⟨h1, xj⟩ := aH he; clear he; rw [Bool.and_eq_true] at h1; have e1 := Nat.eq_of_beq_eq_true h1.1; subst e1
       cases hb : di st b g with
       | none => rw [hb] at xj; cases xj
       | some cs =>
         rw [hb] at xj; simp only [Option.bind_some] at xj
         cases hq : ky st ps t cs y with
         | none => rw [hq] at xj; cases xj
         | some q =>
           obtain ⟨z, us, rs⟩ := q; rw [hq] at xj; injection xj with xj; injection xj with e1 e2; injection e2 with e2 e3; subst e1 e2 e3; obtain ⟨sl, k1, k2, k3⟩ := gU hb; obtain ⟨h1, vs, ty, h2, h3⟩ := h.boxes b sl cs k1 k3; obtain ⟨g1, g2, g3⟩ := vals _ _ _ _ _ _ h3 hq; refine ⟨g1, fun l hl => ?_, jx k (.box []) [.box b] us, by rw [lY]; rfl, lZ _ _ _ _, fun ρ hp hr => ⟨c.bx b, vs, ty, hV.2.2 cs hb, ?_, h2, g3 ρ (fun p ku => hp p (List.mem_append_right _ ku)) hr⟩⟩
           · rcases List.mem_cons.1 hl with rfl | hl
             · rfl
             · exact g2 l hl
           · exact (Cz.j4 h1).trans (hp (.box b, .sE k) (by simp [jx]))
     | _ => cases he
   | agg _ => cases he
   | mz _ => cases he
 | bB ps => cases he
theorem vR {w0 : World} {mu : Mu} {c : Cz} {st : St} {a : Act} {w : World} (h : Rel w0 mu c st a w) : (l : List (Option AP)) → (k : Nat) → {x : ar (aE l)} → {u : List Lb} → {r : List (Nat × Nat)} → mI st k l = some (x, u, r) →
   (∀ l ∈ u, l.real = true) ∧ ∃ tb : List (Lb × Lb), tb.map (·.1) = u ∧ (∀ p ∈ tb, p.2.jV = true) ∧ ∀ ρ : Lb → Option Lb, (∀ p ∈ tb, ρ p.1 = some p.2) → (∀ p ∈ r, ρ (.sp p.1 p.2) = none) → AA (c.map ρ) w c.lc a k (bW l x)
 | [], k, x, u, r, he => by
   have he : some ((), ([] : List Lb), ([] : List (Nat × Nat))) = some (x, u, r) := he; injection he with he; injection he with _ e2; injection e2 with e2 e3; subst e2 e3; exact ⟨by simp, [], rfl, by simp, fun ρ _ _ i av hi => by simp [bW] at hi⟩
 | none :: l, k, x, u, r, he => by
   obtain ⟨g1, tb, g2, g3, g4⟩ := vR h l (k + 1) he; refine ⟨g1, tb, g2, g3, fun ρ hp hr i av hi => ?_⟩
   cases i with
   | zero => simp [bW] at hi
   | succ i =>
     have := g4 ρ hp hr i av (by simpa [bW] using hi)
     rwa [show k + 1 + i = k + (i + 1) by omega] at this
 | some p :: l, k, x, u, r, he => by
   unfold mI at he
   cases h1 : mI st (k + 1) l with
   | none => simp [h1] at he
   | some q1 =>
     obtain ⟨y, us, rs⟩ := q1; simp only [h1] at he
     cases h2 : BD st k p (aE l) (bK st k) y with
     | none => simp [h2] at he
     | some q2 =>
       obtain ⟨x1, u1, r1⟩ := q2; simp only [h2] at he; injection he with he; injection he with e1 e2; injection e2 with e2 e3; subst e1 e2 e3; obtain ⟨g1, tb, g2, g3, g4⟩ := vR h l (k + 1) h1; obtain ⟨a1, a2, ta, a3, a4, a5⟩ := zx h k (h.eI k) h2; refine ⟨fun l' hl => ?_, ta ++ tb, by simp [a3, g2], fun p hp => ?_, fun ρ hp hr i av hi => ?_⟩
       · rcases List.mem_append.1 hl with hl | hl
         · exact a2 l' hl
         · exact g1 l' hl
       · rcases List.mem_append.1 hp with hp | hp
         · exact a4 p hp
         · exact g3 p hp
       · cases i with
         | zero =>
           have hi : some (some (p.av (aE l) x1).1) = some (some av) := hi; simp only [Option.some.injEq] at hi; subst hi; exact a5 ρ (fun p ku => hp p (List.mem_append_left _ ku)) (fun p ku => hr p (List.mem_append_left _ ku))
         | succ i =>
           have hi : (bW l (p.av (aE l) x1).2)[i]? = some (some av) := hi; rw [a1] at hi; have := g4 ρ (fun p ku => hp p (List.mem_append_right _ ku)) (fun p ku => hr p (List.mem_append_right _ ku)) i av hi
           rwa [show k + 1 + i = k + (i + 1) by omega] at this
end Go.TM
namespace Go.TM
open Go Go.RowKit
def Pj (L : List (Option AV)) (lc : Nat → Nat → Loc) (a : Act) : Me → Prop
 | .arr i j g W n l => g = 1 ∧ i < L.length ∧ ∀ av, L[i]? = some (some av) → (∃ A, av = .io A ∧ (j = 0 → A.r.width = W ∧ A.xs.length = n ∧ lc i 0 = l)) ∨ ∃ os, av = .bB os ∧ ∀ A, os[j]? = some (.own A) → A.r.width = W ∧ A.xs.length = n ∧ lc i j = l
 | .box i g nB => g = 1 ∧ i < L.length ∧ ∀ os, L[i]? = some (some (.box os)) → a.eval (.tmp i) = .pointer (some ⟨nB, 0, none⟩)
def Pk : Lb → Lb
 | .bG i j => .sp i j
 | .sE i => .box i
 | l => l
structure Pn (c : Cz) (w : World) (k : Nat) (av : Option AV) (u : Value) (lio : Nat → Loc) (nB : Nat) (lcs : Nat → Loc) : Prop where
 arr : ∀ j A, nth (cM k av).aK j = some (some A) → ∃ v, OwnAt c w (.bG k j) (lcs j) A v
 reg : ∀ (c2 : Cz) (gD : St), (∀ b, c.ok b → c2.ok b) → c2.bx k = nB → c2.lc k = lcs → nth gD k = some (cM k av) → dU c2 gD w (cM k av).v u
 box : ∀ cs, (cM k av).box = some cs → u = .pointer (some ⟨nB, 0, none⟩) ∧ c.own nB = some (.sE k) ∧ ∃ vs ty, w.heap[nB]? = some (.cells vs ty (0, 0)) ∧
   ∀ (c2 : Cz) (gD : St), (∀ b, c.ok b → c2.ok b) → c2.lc k = lcs → nth gD k = some (cM k av) → eH c2 gD w cs vs.toList
 io : ∀ A, av = some (.io A) → lcs 0 = lio 0
 bB : ∀ os, av = some (.bB os) → lcs = lio
theorem qp {st : St} {k j : Nat} {av : Option AV} {A : gP} (h : nth st k = some (cM k av)) (hA : aQ st k j 1 = some A) : nth (cM k av).aK j = some (some A) := by
 obtain ⟨sl, h1, _, h3⟩ := ba hA; rw [h] at h1; cases h1; exact h3
theorem qt {st : St} {k : Nat} {av : Option AV} (h : nth st k = some (cM k av)) : cQ st k = 1 := by
 unfold cQ; rw [h]
 cases av with
 | none => rfl
 | some av => cases av with
   | val agg os => cases agg <;> rfl
   | io A => rfl
   | box os => rfl
   | bB os => rfl
theorem Fv {st : St} {k : Nat} {av : Option AV} (h : nth st k = some (cM k av)) : fM st k = 1 := by
 unfold fM; rw [h]
 cases av with
 | none => rfl
 | some av => cases av with
   | val agg os => cases agg <;> rfl
   | io A => rfl
   | box os => rfl
   | bB os => rfl
theorem zy : (os : List OV) → (j : Nat) → {A : gP} → nth (aY os) j = some (some A) → os[j]? = some (.own A)
 | [], _, _, h => by simp [aY] at h
 | o :: os, 0, A, h => by
   simp only [aY, nth, Option.some.injEq] at h
   cases o with
   | own B => injection h with h; subst h; rfl
   | _ => cases h
 | o :: os, j + 1, A, h => by
   have := zy os j (A := A) h; simpa using this
theorem Fx {d g : Nat} : (os : List OV) → (j k : Nat) → (o : OV) → os[k]? = some o → ∃ x, aV d g (j + k) [o] = [x] ∧ (aV d g j os)[k]? = some x
 | [], _, _, _, h => by simp at h
 | o :: os, j, 0, o', h => by
   simp only [List.getElem?_cons_zero, Option.some.injEq] at h; subst h
   cases o <;> exact ⟨_, rfl, rfl⟩
 | o :: os, j, k + 1, o', h => by
   obtain ⟨x, h1, h2⟩ := Fx (d := d) (g := g) os (j + 1) k o' (by simpa using h); rw [show j + 1 + k = j + (k + 1) by omega] at h1; refine ⟨x, h1, ?_⟩
   cases o <;> simpa [aV] using h2
theorem Dc {d g : Nat} : (os : List OV) → (j : Nat) → (aV d g j os).length = os.length
 | [], _ => rfl
 | o :: os, j => by cases o <;> simp [aV, Dc os (j + 1)]
theorem bc.Po {c : Cz} {w : World} {f : Nat → Lb} {os : List OV} {vs : List Value} (h : bc c w f 0 os vs) (lcs : Nat → Loc) (ho : ∀ k A u, os[k]? = some (.own A) → vs[k]? = some u → ∃ l, OwnAt c w l (lcs k) A u)
   (c2 : Cz) (gD : St) (d g : Nat) (fH : ∀ b, c.ok b → c2.ok b) (gV : ∀ k, c2.lc d k = lcs k) (Au : ∀ k A, aQ gD d k g = some A → os[k]? = some (.own A)) (hg : g ≤ cQ gD d) : eH c2 gD w (aV d g 0 os) vs := by
 obtain ⟨h1, h2⟩ := bc.Ph os 0 vs h; refine ⟨by rw [Dc, h1], fun k x v hx hv => ?_⟩; have bN : k < os.length := by rw [← h1]; exact (List.getElem?_eq_some_iff.1 hv).1
 have JS : os[k]? = some os[k] := List.getElem?_eq_getElem bN; obtain ⟨y, q1, q2⟩ := Fx (d := d) (g := g) os 0 k _ JS; rw [q2] at hx
 cases hx
 have hL := h2 k _ v JS hv; rw [Nat.zero_add] at q1; generalize os[k] = o at *
 cases o with
 | own A =>
   simp only [aV, List.cons.injEq, and_true] at q1; subst q1; obtain ⟨l, hO⟩ := ho k A v JS hv; refine ⟨hO.1, hg, fun A' dQ => ?_⟩; have := Au k A' dQ; rw [JS] at this
   cases this
   rw [gV]; exact hO.2.1
 | shr r xs =>
   simp only [aV, List.cons.injEq, and_true] at q1; subst q1; obtain ⟨v', l, e, h3, _⟩ := hL
   cases e
   exact bH.stays ⟨Nat.le_refl _, fun _ _ _ => rfl, fun b _ hb => fH b hb⟩ _ _ _ h3
 | lf r xs =>
   simp only [aV, List.cons.injEq, and_true] at q1; subst q1; obtain ⟨v', l, e, ⟨b, oo, e1, e2, e3, e4⟩, _⟩ := hL
   cases e
   exact ⟨b, oo, e1, e2, fH b e3, fun x hx => cn.stays ⟨Nat.le_refl _, fun _ _ _ => rfl, fun b _ hb => fH b hb⟩ _ _ _ _ rfl (e4 x hx)⟩
 | fn fg r xs =>
   simp only [aV, List.cons.injEq, and_true] at q1; subst q1; obtain ⟨v', l, e, h3, _⟩ := hL
   cases e
   exact h3.stays ⟨Nat.le_refl _, fun _ _ _ => rfl, fun b _ hb => fH b hb⟩
 | _ =>
   simp only [aV, List.cons.injEq, and_true] at q1; subst q1; obtain ⟨l, e, _⟩ := hL
   cases e
   rfl
theorem RM {c : Cz} {w : World} {k : Nat} {lio : Nat → Loc} {av : Option AV} {u : Value} (h : ∀ v, av = some v → rT c w k lio v u) : ∃ nB lcs, Pn c w k av u lio nB lcs := by
 cases av with
 | none => exact ⟨0, fun _ => .nil, fun j A hA => by simp [cM, Sl.blank] at hA, fun c2 gD _ _ _ _ => trivial, fun cs tz => by simp [cM, Sl.blank] at tz, fun A hA => (by cases hA), fun A hA => (by cases hA)⟩
 | some av =>
   have h := h av rfl
   cases av with
   | val agg os =>
     cases agg with
     | true =>
       obtain ⟨vs, rfl, hl⟩ := h; obtain ⟨lcs, g1, g2⟩ := bc.cells os 0 _ hl; simp only [Nat.zero_add] at g1 g2; refine ⟨0, lcs, fun j A hA => g1 j A hA, fun c2 gD fH _ gV hn => ⟨vs, rfl, ?_⟩, fun cs tz => by simp [cM] at tz, fun A hA => (by cases hA), fun A hA => (by cases hA)⟩; exact g2 c2 gD k 1 fH (fun j _ => by rw [gV]) (fun j A _ hA => qp hn hA) (by rw [qt hn]; exact Nat.le_refl _)
     | false =>
       have hl : bc c w (.bG k) 0 os [u] := h; obtain ⟨lcs, g1, g2⟩ := bc.cells os 0 _ hl; simp only [Nat.zero_add] at g1 g2; refine ⟨0, lcs, fun j A hA => g1 j A hA, fun c2 gD fH _ gV hn => ?_, fun cs tz => by simp [cM] at tz, fun A hA => (by cases hA), fun A hA => (by cases hA)⟩; have hR := g2 c2 gD k 1 fH (fun j _ => by rw [gV]) (fun j A _ hA => qp hn hA) (by rw [qt hn]; exact Nat.le_refl _); show dU c2 gD w (match aV k 1 0 os with | [c] => .one c | _ => .one .bad) u; have h1 := hR.1
       cases hc : aV k 1 0 os with
       | nil => trivial
       | cons x l => cases l with
         | nil => rw [hc] at hR; exact hR.2 0 x u rfl rfl
         | cons _ _ => trivial
   | io A =>
     have hO : OwnAt c w (.bG k 0) (lio 0) A u := h; refine ⟨0, lio, fun j A' dQ => ?_, fun c2 gD fH _ gV hn => ?_, fun cs tz => by simp [cM] at tz, fun A hA => rfl, fun A hA => by cases hA⟩
     · cases j with
       | zero => simp [cM, nth] at dQ; subst dQ; exact ⟨u, hO⟩
       | succ j => simp [cM, nth] at dQ
     · refine ⟨hO.1, by rw [qt hn]; exact Nat.le_refl _, fun A' dQ => ?_⟩; have := qp hn dQ; simp [cM, nth] at this; subst this; rw [gV]; exact hO.2.1
   | bB os =>
     obtain ⟨vs, rfl, hl, O3⟩ := h; have eW : ∀ j A u, os[j]? = some (.own A) → vs.toList[j]? = some u → OwnAt c w (.bG k j) (lio j) A u := fun j A u h1 h2 => O3 j _ u h1 h2
     obtain ⟨n1, _⟩ := bc.Ph os 0 _ hl; refine ⟨0, lio, fun j A' dQ => ?_, fun c2 gD fH _ gV hn => ⟨vs, rfl, ?_⟩, fun cs tz => by simp [cM] at tz, fun A hA => (by cases hA), fun zn _ => rfl⟩
     · have hj := zy os j dQ; have bN : j < vs.toList.length := by rw [n1]; exact (List.getElem?_eq_some_iff.1 hj).1
       exact ⟨_, eW j A' _ hj (List.getElem?_eq_getElem bN)⟩
     · exact bc.Po hl lio (fun j A u h1 h2 => ⟨_, eW j A u h1 h2⟩) c2 gD k 1 fH (fun j => by rw [gV]) (fun j A hA => zy os j (qp hn hA)) (by rw [qt hn]; exact Nat.le_refl _)
   | box os =>
     obtain ⟨nB, vs, ty, h1, h2, h3, hl⟩ := h; obtain ⟨lcs, g1, g2⟩ := bc.cells os 0 _ hl; simp only [Nat.zero_add] at g1 g2; refine ⟨nB, lcs, fun j A hA => g1 j A hA, fun c2 gD fH Ca gV hn => ⟨by rw [h1]; rfl, by rw [Fv hn]; exact Nat.le_refl _, fun cs _ => by rw [Ca]; exact h1⟩, fun cs tz => ⟨h1, h2, vs, ty, h3, fun c2 gD fH gV hn => ?_⟩, fun A hA => (by cases hA), fun A hA => (by cases hA)⟩; simp only [cM, Option.some.injEq] at tz; subst tz; exact g2 c2 gD k 1 fH (fun j _ => by rw [gV]) (fun j A _ hA => qp hn hA) (by rw [qt hn]; exact Nat.le_refl _)
theorem Rel.Lw {w0 : World} {mu : Mu} {c : Cz} {a : Act} {w : World} {L : List (Option AV)} {lc : Nat → Nat → Loc} (hb : Aq w0 mu c w) (hd : a.defers = []) (hL : AA c w lc a 0 L) (hA : ∀ p ∈ mu.an, Pj L lc a p) : ∃ c', Rel w0 mu c' (nC 0 L) a w := by
 have O6 : ∀ k, ∃ q : Nat × (Nat → Loc), Pn c w k ((L[k]?).getD none) (a.eval (.tmp k)) (lc k) q.1 q.2 := by
   intro k; obtain ⟨nB, lcs, h⟩ := RM (c := c) (w := w) (k := k) (lio := lc k) (av := (L[k]?).getD none) (u := a.eval (.tmp k)) (fun v hv => by
     have := hL k v (by
       cases hq : L[k]? with
       | none => rw [hq] at hv; cases hv
       | some o => rw [hq] at hv; simp at hv; rw [hv])
     simpa using this)
   exact ⟨(nB, lcs), h⟩
 obtain ⟨q, hq⟩ := Classical.axiomOfChoice O6; have hn : ∀ k, nth (nC 0 L) k = (L[k]?).map (cM k) := fun k => by have := Ft L 0 k; simpa using this
 have Ml : ∀ k sl, nth (nC 0 L) k = some sl → ∃ o, L[k]? = some o ∧ sl = cM k o ∧ nth (nC 0 L) k = some (cM k ((L[k]?).getD none)) ∧ (L[k]?).getD none = o := by
   intro k sl h; rw [hn] at h
   cases ho : L[k]? with
   | none => rw [ho] at h; cases h
   | some o =>
     rw [ho] at h
     cases h
     refine ⟨o, rfl, rfl, ?_, rfl⟩; rw [hn, ho]; rfl
 let c' := c.dP Pk (fun k => (q k).1) (fun k => (q k).2)
 have fH : ∀ b, c.ok b → c'.ok b := fun b hb => Cz.lH.2 hb
 refine ⟨c', fun t => ?_, fun s sl cs hs Ca => ?_, fun s j sl A hs dQ => ?_, fun b l hl => ?_, fun b bN hl => hb.free b bN (by simpa [c', Cz.dP] using hl), hb.kept, hb.old, hd, fun p hp => ?_⟩
 · cases hs : nth (nC 0 L) t with
   | none =>
     have : bK (nC 0 L) t = .one .bad := by unfold bK; rw [hs]
     rw [this]; trivial
   | some sl =>
     obtain ⟨o, h1, rfl, h3, h4⟩ := Ml t sl hs; have : bK (nC 0 L) t = (cM t ((L[t]?).getD none)).v := by unfold bK; rw [h3]
     rw [this]; exact (hq t).reg c' (nC 0 L) fH rfl rfl h3
 · obtain ⟨o, h1, rfl, h3, h4⟩ := Ml s sl hs; rw [← h4] at Ca; obtain ⟨g1, g2, vs, ty, g3, g4⟩ := (hq s).box cs Ca; refine ⟨?_, vs, ty, g3, g4 c' (nC 0 L) fH rfl h3⟩; show (c.own (q s).1).map Pk = _; rw [g2]; rfl
 · obtain ⟨o, h1, rfl, h3, h4⟩ := Ml s sl hs; rw [← h4] at dQ; obtain ⟨v, hv⟩ := (hq s).arr j A dQ; exact hv.arr rfl rfl
 · simp only [c', Cz.dP, Option.map_eq_some_iff] at hl; obtain ⟨k, hk, e⟩ := hl; obtain ⟨h1, h2⟩ := hb.owned b k hk; refine ⟨h1, h2.imp (fun e2 => ?_) id⟩; subst e2; rw [← e]; rfl
 · have hf := hA p hp
   cases p with
   | arr i j g W n l =>
     obtain ⟨rfl, hi, HZ⟩ := hf; have hs : nth (nC 0 L) i = some (cM i ((L[i]?).getD none)) := by rw [hn]; simp [List.getElem?_eq_getElem hi]
     refine ⟨by rw [qt hs]; exact Nat.le_refl _, fun A dQ => ?_⟩; have h3 := qp hs dQ
     cases ho : L[i]? with
     | none => rw [ho] at h3; simp [cM, Sl.blank] at h3
     | some o => cases o with
       | none => rw [ho] at h3; simp [cM, Sl.blank] at h3
       | some av =>
         rcases HZ av ho with ⟨A0, rfl, h5⟩ | ⟨os, rfl, h5⟩
         case inr =>
           rw [ho] at h3; obtain ⟨e1, e2, e3⟩ := h5 A (zy os j h3); refine ⟨e1, e2, ?_⟩; rw [← e3]; have := (hq i).bB os (by rw [ho]; rfl); show (q i).2 j = lc i j; rw [this]
         rw [ho] at h3
         cases j with
         | zero =>
           simp [cM, nth] at h3; subst h3; obtain ⟨e1, e2, e3⟩ := h5 rfl; exact ⟨e1, e2, ((hq i).io A0 (by rw [ho]; rfl)).trans e3⟩
         | succ j => simp [cM, nth] at h3
   | box i g nB =>
     obtain ⟨rfl, hi, HZ⟩ := hf; have hs : nth (nC 0 L) i = some (cM i ((L[i]?).getD none)) := by rw [hn]; simp [List.getElem?_eq_getElem hi]
     refine ⟨by rw [Fv hs]; exact Nat.le_refl _, fun cs tz => ?_⟩; obtain ⟨sl, k1, k2, k3⟩ := gU tz; rw [hs] at k1; cases k1; obtain ⟨g1, _⟩ := (hq i).box cs k3; have sq : ∃ os, L[i]? = some (some (.box os)) := by
       cases ho : L[i]? with
       | none => rw [ho] at k3; simp [cM, Sl.blank] at k3
       | some o => cases o with
         | none => rw [ho] at k3; simp [cM, Sl.blank] at k3
         | some av => cases av with
           | val agg os => rw [ho] at k3; cases agg <;> simp [cM] at k3
           | io A => rw [ho] at k3; simp [cM] at k3
           | bB os => rw [ho] at k3; simp [cM] at k3
           | box os => exact ⟨os, rfl⟩
     obtain ⟨os, sq⟩ := sq; have := HZ os sq; rw [this] at g1; injection g1 with g1; injection g1 with g1; injection g1 with g1; exact g1.symm
end Go.TM
namespace Go.TM
open Go Go.RowKit
inductive Src where
 | tmp (t : Nat)
 | cell (t : Nat)
 | ptr (t : Nat)  -- Js struct behind a pointer, aj5 is jV back
structure RP where
 src : Src
 agg : Bool
 ps : List OP
def ca : List RP → RT → RT
 | [], t => t
 | r :: rs, t => lB r.ps (ca rs t)
def qP : List OP → RT → RT
 | [], t => t
 | .own r _ :: ps, t => .cons (.sl r) (qP ps t)
 | .int _ :: ps, t => qP ps t
 | .bool :: ps, t => qP ps t
 | .str :: ps, t => qP ps t
 | .shr _ :: ps, t => qP ps t
 | .lf _ :: ps, t => qP ps t
 | .fn _ _ :: ps, t => qP ps t
def bk : List AP → RT
 | [] => .nil
 | .val _ _ :: l => bk l
 | .io r _ :: l => .cons (.sl r) (bk l)
 | .box _ ps :: l => lB ps (bk l)
 | .bB ps :: l => qP ps (bk l)
def RP.cells (st : St) (r : RP) : Option (List CV) :=
 match r.src with
 | .tmp t => match bK st t with
   | .agg cs => bif r.agg then some cs else none
   | .one c => bif r.agg then none else some [c]
   | .mz _ => none
 | .cell t => match bK st t with
   | .one (.ptr b g off) => bif Nat.beq off 0 then di st b g else none
   | _ => none
 | .ptr t => match bK st t with
   | .one (.ptr b g off) => bif Nat.beq off 0 then di st b g else none
   | _ => none
def RP.YR (st : St) (r : RP) : List (Option Lb) :=
 match r.src with
 | .ptr t => (match bK st t with | .one (.ptr b _ _) => [some (.box b)] | _ => [])
 | _ => []
def Dd (st : St) : (rs : List RP) → (t : RT) → ar t → Option (ar (ca rs t) × List (Option Lb) × List (Nat × Nat))
 | [], _, y => some (y, [], [])
 | r :: rs, t, y => (r.cells st).bind fun cs => (Dd st rs t y).bind fun q => (ky st r.ps (ca rs t) cs q.1).map fun p => (p.1, r.YR st ++ (p.2.1 ++ q.2.1), p.2.2 ++ q.2.2)
def lC (st : St) (i : Nat) : (j : Nat) → (ps : List OP) → (t : RT) → ar t → Option (ar (qP ps t) × List Lb)
 | _, [], _, y => some (y, [])
 | j, .own r d :: ps, t, y => (lC st i (j + 1) ps t y).bind fun q => (aQ st i j 1).bind fun A => bif A.own && A.md.is d then (bw r A.xs).map fun xs => ((xs, q.1), .sp i j :: q.2) else none
 | j, .int _ :: ps, t, y => lC st i (j + 1) ps t y
 | j, .bool :: ps, t, y => lC st i (j + 1) ps t y
 | j, .str :: ps, t, y => lC st i (j + 1) ps t y
 | j, .shr _ :: ps, t, y => lC st i (j + 1) ps t y
 | j, .lf _ :: ps, t, y => lC st i (j + 1) ps t y
 | j, .fn _ _ :: ps, t, y => lC st i (j + 1) ps t y
def su (st : St) : (i : Nat) → (ps : List AP) → Option (ar (bk ps) × List Lb × List (Nat × Nat))
 | _, [] => some ((), [], [])
 | i, .val _ _ :: l => su st (i + 1) l
 | i, .io r d :: l => (su st (i + 1) l).bind fun q => (BD st i (.io r d) (bk l) (.one (.ref i 0 1 .full)) q.1).map fun p => (p.1, p.2.1 ++ q.2.1, p.2.2 ++ q.2.2)
 | i, .box _ ps :: l => (su st (i + 1) l).bind fun q => (BD st i (.box true ps) (bk l) (.one (.ptr i 1 0)) q.1).map fun p => (p.1, p.2.1 ++ q.2.1, p.2.2 ++ q.2.2)
 | i, .bB ps :: l => (su st (i + 1) l).bind fun q => (lC st i 0 ps (bk l) q.1).map fun p => (p.1, p.2 ++ q.2.1, q.2.2)
def zA (rs : List RP) (ps : List AP) : Ex → St → Option (ar (ca rs (bk ps)))
 | .exit _, _ => none
 | _, st => (su st 0 ps).bind fun x => (Dd st rs (bk ps) x.1).bind fun q => bif tl (bF q.2.1 ++ x.2.1) && apart (bF q.2.1 ++ x.2.1) (q.2.2 ++ x.2.2) then some q.1 else none
def RP.rv (r : RP) (os : List OV) : RV :=
 match r.src with
 | .ptr _ => .ptr os
 | _ => match r.agg, os with
   | false, [o] => .one o
   | _, os => .agg os
def fA : (rs : List RP) → (t : RT) → ar (ca rs t) → List RV × ar t
 | [], _, x => ([], x)
 | r :: rs, t, x => (r.rv (dq r.ps (ca rs t) x).1 :: (fA rs t (dq r.ps (ca rs t) x).2).1, (fA rs t (dq r.ps (ca rs t) x).2).2)
def mh : (ps : List OP) → (t : RT) → ar (qP ps t) → List (Option gP) × ar t
 | [], _, x => ([], x)
 | .own r d :: ps, t, x => (some { r := r, own := true, xs := x.1, md := d } :: (mh ps t x.2).1, (mh ps t x.2).2)
 | .int _ :: ps, t, x => (none :: (mh ps t x).1, (mh ps t x).2)
 | .bool :: ps, t, x => (none :: (mh ps t x).1, (mh ps t x).2)
 | .str :: ps, t, x => (none :: (mh ps t x).1, (mh ps t x).2)
 | .shr _ :: ps, t, x => (none :: (mh ps t x).1, (mh ps t x).2)
 | .lf _ :: ps, t, x => (none :: (mh ps t x).1, (mh ps t x).2)
 | .fn _ _ :: ps, t, x => (none :: (mh ps t x).1, (mh ps t x).2)
def l6 : (ps : List AP) → ar (bk ps) → List XV
 | [], _ => []
 | .val _ _ :: l, x => l6 l x
 | .io r d :: l, x => .io { r := r, own := true, xs := x.1, md := d } :: l6 l x.2
 | .box _ ps :: l, x => .box (dq ps (bk l) x).1 :: l6 l (dq ps (bk l) x).2
 | .bB ps :: l, x => .bB (mh ps (bk l) x).1 :: l6 l (mh ps (bk l) x).2
def kz (ps : List AP) (rs : List RP) (t : ar (aE (ps.map some)) → Option (ar (ca rs (bk ps)))) : u6 := fun dt =>
 match eJ ps dt with
 | some x => some { r := ca rs (bk ps), o := t x, res := fun y => { outs := (fA rs (bk ps) y).1, exts := l6 ps (fA rs (bk ps) y).2 } }
 | none => none
theorem jr {st : St} {i : Nat} : (ps : List OP) → (j : Nat) → (t : RT) → (y : ar t) → {x : ar (qP ps t)} → {u : List Lb} → lC st i j ps t y = some (x, u) → (mh ps t x).2 = y ∧ (∀ l ∈ u, ∃ k, l = .sp i k) ∧
   ∀ (k : Nat) (r : RT) (d : Md), ps[k]? = some (.own r d) → ∃ A xs, aQ st i (j + k) 1 = some A ∧ A.own = true ∧ A.md = d ∧ bw r A.xs = some xs ∧ nth (mh ps t x).1 k = some (some { r := r, own := true, xs := xs, md := d }) ∧ .sp i (j + k) ∈ u
 | [], j, t, y, x, u, h => by
   injection h with h; injection h with e1 e2; subst e1 e2; exact ⟨rfl, by simp, fun k r d hk => by simp at hk⟩
 | .own r d :: ps, j, t, y, x, u, h => by
   unfold lC at h; obtain ⟨q, hq, h⟩ := Option.bind_eq_some_iff.1 h; obtain ⟨A, hA, h⟩ := Option.bind_eq_some_iff.1 h; obtain ⟨ho, h⟩ := aH h; rw [Bool.and_eq_true] at ho; obtain ⟨xs, Q6, h⟩ := Option.map_eq_some_iff.1 h; injection h with e1 e2; subst e1 e2; obtain ⟨z, us⟩ := q; obtain ⟨g1, g2, g3⟩ := jr ps (j + 1) t y hq; refine ⟨g1, fun l hl => ?_, fun k r' d' hk => ?_⟩
   · rcases List.mem_cons.1 hl with rfl | hl
     · exact ⟨j, rfl⟩
     · exact g2 l hl
   · cases k with
     | zero =>
       simp only [List.getElem?_cons_zero, Option.some.injEq, OP.own.injEq] at hk; obtain ⟨rfl, rfl⟩ := hk; exact ⟨A, xs, hA, ho.1, Md.lS.1 ho.2, Q6, rfl, List.mem_cons_self⟩
     | succ k =>
       obtain ⟨A', Zo, k1, k2, kd, k3, k4, k5⟩ := g3 k r' d' (by simpa using hk); rw [show j + 1 + k = j + (k + 1) by omega] at k1 k5; exact ⟨A', Zo, k1, k2, kd, k3, k4, List.mem_cons_of_mem _ k5⟩
 | .int _ :: ps, j, t, y, x, u, h => jP (jr ps (j + 1) t y h) (by simp) (fun k => rfl)
 | .bool :: ps, j, t, y, x, u, h => jP (jr ps (j + 1) t y h) (by simp) (fun k => rfl)
 | .str :: ps, j, t, y, x, u, h => jP (jr ps (j + 1) t y h) (by simp) (fun k => rfl)
 | .shr _ :: ps, j, t, y, x, u, h => jP (jr ps (j + 1) t y h) (by simp) (fun k => rfl)
 | .lf _ :: ps, j, t, y, x, u, h => jP (jr ps (j + 1) t y h) (by simp) (fun k => rfl)
 | .fn _ _ :: ps, j, t, y, x, u, h => jP (jr ps (j + 1) t y h) (by simp) (fun k => rfl)
where
 jP {st : St} {i j : Nat} {p : OP} {ps : List OP} {D : Type} {y z : D} {L L' : List (Option gP)} {u : List Lb} (h : z = y ∧ (∀ l ∈ u, ∃ k, l = .sp i k) ∧ ∀ (k : Nat) (r : RT) (d : Md), ps[k]? = some (.own r d) → ∃ A xs, aQ st i (j + 1 + k) 1 = some A ∧ A.own = true ∧ A.md = d ∧ bw r A.xs = some xs ∧ nth L k = some (some { r := r, own := true, xs := xs, md := d }) ∧ .sp i (j + 1 + k) ∈ u)
     (hp : ∀ r d, p ≠ .own r d) (hL : ∀ k, nth L' (k + 1) = nth L k) : z = y ∧ (∀ l ∈ u, ∃ k, l = .sp i k) ∧ ∀ (k : Nat) (r : RT) (d : Md), (p :: ps)[k]? = some (.own r d) → ∃ A xs, aQ st i (j + k) 1 = some A ∧ A.own = true ∧ A.md = d ∧ bw r A.xs = some xs ∧ nth L' k = some (some { r := r, own := true, xs := xs, md := d }) ∧ .sp i (j + k) ∈ u := by
   obtain ⟨h1, h2, h3⟩ := h; refine ⟨h1, h2, fun k r d hk => ?_⟩
   cases k with
   | zero =>
     simp only [List.getElem?_cons_zero, Option.some.injEq] at hk; exact absurd hk (hp r d)
   | succ k =>
     obtain ⟨A', Zo, k1, k2, kd, k3, k4, k5⟩ := h3 k r d (by simpa using hk); rw [show j + 1 + k = j + (k + 1) by omega] at k1 k5; exact ⟨A', Zo, k1, k2, kd, k3, by rw [hL]; exact k4, k5⟩
theorem Fy {st : St} : (ps : List OP) → (t : RT) → (cs : List CV) → (y : ar t) → {x : ar (lB ps t)} → {u : List (Option Lb)} → {r : List (Nat × Nat)} → ky st ps t cs y = some (x, u, r) → u.length = ps.length ∧ cs.length = ps.length ∧ (dq ps t x).1.length = ps.length
 | [], t, [], y, x, u, r, h => by
   injection h with h; injection h with e1 e2; injection e2 with e2 e3; subst e1 e2 e3; exact ⟨rfl, rfl, rfl⟩
 | [], t, _ :: _, y, x, u, r, h => by simp [ky] at h
 | _ :: _, t, [], y, x, u, r, h => by simp [ky] at h
 | p :: ps, t, c :: cs, y, x, u, r, h => by
   unfold ky at h
   cases hc : fy st p.nz c with
   | none => simp [hc] at h
   | some q1 =>
     obtain ⟨o, u1, r1⟩ := q1
     cases hq : ky st ps t cs y with
     | none => simp [hc, hq] at h
     | some q2 =>
       obtain ⟨z, us, rs⟩ := q2; simp only [hc, hq] at h
       cases ho : qO p o with
       | none => simp [ho] at h
       | some a1 =>
         simp only [ho] at h; injection h with h; injection h with e1 e2; injection e2 with e2 e3; subst e1 e2 e3; obtain ⟨g1, g2, g3⟩ := Fy ps t cs y hq; exact ⟨by simp [g1], by simp [g2], by simp [dq, g3]⟩
def Pp (T : ki) (fr : Array Value) : ResultVar → RP → Prop
 | .tmp t, r => r.src = .tmp t ∨ r.src = .ptr t
 | .cell t ty, r => r.src = .cell t ∧ T.cells ty = some r.ps.length ∧ T.agg ty = r.agg
def De (tm : Array Value) : ResultVar → Sem Value
 | .tmp t => pure (tm.getD t undef)
 | .cell a t => do loadVar t (← asAddr (tm.getD a undef))
theorem RP.Pq {P : Program} {T : ki} (hT : fI P T) {w0 : World} {mu : Mu} {c : Cz} {st : St} {a : Act} {w : World} (h : Rel w0 mu c st a w) {r : RP} {rv : ResultVar} (hr : Pp T a.tmps rv r) {cs : List CV} (hc : r.cells st = some cs) (hn : cs.length = r.ps.length) :
   ∃ vs v, eH c st w cs vs ∧ (De a.tmps rv).run P w = .ok v w ∧ (((∀ t, r.src ≠ .ptr t) ∧ ((r.agg = true ∧ v = .agg vs.toArray) ∨ (r.agg = false ∧ (vs = [v])))) ∨
     (∃ t b ty us, r.src = .ptr t ∧ r.YR st = [some (.box b)] ∧ v = .pointer (some ⟨c.bx b, 0, none⟩) ∧ c.own (c.bx b) = some (.box b) ∧ w.heap[c.bx b]? = some (.cells us ty (0, 0)) ∧ vs = us.toList)) := by
 unfold RP.cells at hc
 cases rv with
 | tmp t =>
   rcases (hr : r.src = .tmp t ∨ r.src = .ptr t) with hs | hs
   case inr =>
     rw [hs] at hc; have sN := h.eI t; simp only at hc
     cases hv : bK st t with
     | mz _ => rw [hv] at hc; cases hc
     | agg l => rw [hv] at hc; cases hc
     | one x =>
       cases x with
       | ptr b g off =>
         rw [hv] at hc sN; obtain ⟨ho, hb⟩ := aH hc; have ho := Nat.eq_of_beq_eq_true ho; subst ho; obtain ⟨sl, k1, k2, k3⟩ := gU hb; obtain ⟨q1, vs, ty', q2, q3⟩ := h.boxes b sl cs k1 k3; have e : a.tmps.getD t undef = .pointer (some ⟨c.bx b, 0, none⟩) := sN.2.2 cs hb; refine ⟨vs.toList, a.tmps.getD t undef, q3, rfl, .inr ⟨t, b, ty', vs, hs, ?_, e, q1, q2, rfl⟩⟩; unfold RP.YR; rw [hs]; simp only [hv]
       | _ => rw [hv] at hc; cases hc
   rw [hs] at hc; have sN := h.eI t; simp only at hc
   cases hv : bK st t with
   | mz _ => rw [hv] at hc; cases hc
   | agg l =>
     rw [hv] at hc sN; obtain ⟨Lx, hc1⟩ := aH hc
     cases hc1
     obtain ⟨vs, e, hl⟩ := sN; exact ⟨vs.toList, a.eval (.tmp t), hl, rfl, .inl ⟨fun t' e' => (by rw [hs] at e'; cases e'), .inl ⟨Lx, by rw [e]⟩⟩⟩
   | one x =>
     rw [hv] at hc sN; simp only at hc
     cases Lx : r.agg with
     | true => rw [Lx] at hc; cases hc
     | false =>
       rw [Lx] at hc
       cases hc
       refine ⟨[a.eval (.tmp t)], a.eval (.tmp t), ⟨rfl, fun i y z hy hz => ?_⟩, rfl, .inl ⟨fun t' e' => (by rw [hs] at e'; cases e'), .inr ⟨rfl, rfl⟩⟩⟩
       cases i with
       | zero => simp at hy hz; subst hy hz; exact sN
       | succ i => simp at hy
 | cell t ty =>
   obtain ⟨hs, h1, h2⟩ := hr; rw [hs] at hc; have sN := h.eI t; simp only at hc
   cases hv : bK st t with
   | mz _ => rw [hv] at hc; cases hc
   | agg l => rw [hv] at hc; cases hc
   | one x =>
     cases x with
     | ptr b g off =>
       rw [hv] at hc sN; obtain ⟨ho, hb⟩ := aH hc; have ho := Nat.eq_of_beq_eq_true ho; subst ho; obtain ⟨sl, k1, k2, k3⟩ := gU hb; obtain ⟨q1, vs, ty', q2, q3⟩ := h.boxes b sl cs k1 k3; have e : a.tmps.getD t undef = .pointer (some ⟨c.bx b, 0, none⟩) := sN.2.2 cs hb; have US : w.rangeAt (c.bx b) 0 vs.toList := by
         have := Bn (off := 0) q2 vs.toList.length
         rwa [List.drop_zero, List.take_length] at this
       have hlen : vs.toList.length = r.ps.length := by rw [← q3.1, hn]
       have oE := rO (P := P) hT h1 w (c.bx b) 0 vs.toList US hlen; refine ⟨vs.toList, valOf (T.agg ty) vs.toList, q3, ?_, .inl ⟨fun t' e' => (by rw [hs] at e'; cases e'), ?_⟩⟩
       · simp [De, e, asAddr, Sem.run_bind, oE]
       · rw [h2]
         cases Lx : r.agg with
         | true => exact .inl ⟨rfl, by simp [valOf]⟩
         | false =>
           obtain ⟨_, _, _, Cc⟩ := hT.agg ty _ h1; have h3 := Cc (by rw [h2, Lx]); refine .inr ⟨rfl, ?_⟩; have : vs.toList.length = 1 := by rw [hlen, h3]
           cases ze : vs.toList with
           | nil => rw [ze] at this; cases this
           | cons x l => cases l with
             | nil => rfl
             | cons _ _ => rw [ze] at this; simp at this
     | _ => rw [hv] at hc; cases hc
end Go.TM
namespace Go.TM
open Go Go.RowKit
def xM (T : ki) (tm : Array Value) : List ResultVar → List RP → Prop
 | [], [] => True
 | v :: vs, r :: rs => Pp T tm v r ∧ xM T tm vs rs
 | _, _ => False
theorem Fz {P : Program} {T : ki} (hT : fI P T) {w0 : World} {mu : Mu} {c : Cz} {st : St} {a : Act} {w : World} (h : Rel w0 mu c st a w) : (Z2 : List ResultVar) → (rs : List RP) → xM T a.tmps Z2 rs → (t : RT) → (y : ar t) → {x : ar (ca rs t)} → {u : List (Option Lb)} → {r : List (Nat × Nat)} → Dd st rs t y = some (x, u, r) →
   (fA rs t x).2 = y ∧ (fA rs t x).1.length = rs.length ∧ (∀ l ∈ bF u, l.real = true) ∧ ∃ vals : List Value, (Z2.mapM (De a.tmps)).run P w = .ok vals w ∧ vals.length = Z2.length ∧
     ∀ (ρ : Lb → Option Lb) (j : Nat), (∀ k l, nth u k = some (some l) → ρ l = some (.il (j + k))) → (∀ p ∈ r, ρ (.sp p.1 p.2) = none) → lg (c.map ρ) w j (fA rs t x).1 vals
 | [], [], _, t, y, x, u, r, he => by
   injection he with he; injection he with e1 e2; injection e2 with e2 e3; subst e1 e2 e3; exact ⟨rfl, rfl, by simp [bF], [], rfl, rfl, fun _ _ _ _ => rfl⟩
 | [], _ :: _, hf, _, _, _, _, _, _ => hf.elim
 | _ :: _, [], hf, _, _, _, _, _, _ => hf.elim
 | rv :: Z2, rr :: rs, hf, t, y, x, u, r, he => by
   unfold Dd at he; obtain ⟨cs, hc, he⟩ := Option.bind_eq_some_iff.1 he; obtain ⟨q, hq, he⟩ := Option.bind_eq_some_iff.1 he; obtain ⟨p, hp, he⟩ := Option.map_eq_some_iff.1 he; obtain ⟨x2, u2, r2⟩ := q; obtain ⟨x1, u1, r1⟩ := p; injection he with e1 e2; injection e2 with e2 e3; subst e1 e2 e3; obtain ⟨l1, l2, l3⟩ := Fy rr.ps _ cs _ hp; obtain ⟨vs, v, g1, g2, g3⟩ := RP.Pq hT h hf.1 hc l2; obtain ⟨k1, k2, k3, vals, k4, k5, k6⟩ := Fz hT h Z2 rs hf.2 t y hq; have h0 := fun (ρ : Lb → Option Lb) (j : Nat) => vQ h (ρ := ρ) (f := .il) rr.ps (ca rs t) cs x2 vs j g1 hp
   have e0 := (h0 (fun _ => none) 0).1; refine ⟨?_, ?_, fun l hl => ?_, v :: vals, ?_, by simp [k5], fun ρ j hu hr => ?_⟩
   · show (fA rs t (dq rr.ps (ca rs t) x1).2).2 = y; rw [e0]; exact k1
   · show (fA rs t (dq rr.ps (ca rs t) x1).2).1.length + 1 = _; rw [e0, k2]; rfl
   · rw [gk] at hl; rcases List.mem_append.1 hl with hl | hl
     · unfold RP.YR at hl
       split at hl
       · split at hl
         · simp only [List.mem_singleton, Option.some.injEq] at hl; subst hl; rfl
         · cases hl
       · cases hl
     · rcases List.mem_append.1 hl with hl | hl
       · exact (h0 (fun _ => none) 0).2.1 l (gk.2 hl)
       · exact k3 l (gk.2 hl)
   · rw [List.mapM_cons]; simp [Sem.run_bind, g2, k4]
   · have e : (fA (rr :: rs) t x1).1 = rr.rv (dq rr.ps (ca rs t) x1).1 :: (fA rs t x2).1 := by
       show rr.rv (dq rr.ps (ca rs t) x1).1 :: (fA rs t (dq rr.ps (ca rs t) x1).2).1 = _; rw [e0]
     show lg (c.map ρ) w j (fA (rr :: rs) t x1).1 (v :: vals); rw [e]; rcases g3 with ⟨hnp, g3⟩ | ⟨tt, b, ty, us, Ps, UT, hv, eW, OY, ze⟩
     · have UT : rr.YR st = [] := by
         unfold RP.YR
         split
         · rename_i t' e'; exact absurd e' (hnp t')
         · rfl
       rw [UT, List.nil_append] at hu; have hL := (h0 ρ j).2.2 (fun k l hk => hu k l (by
         rw [lX, if_pos (Gq hk)]; exact hk)) (fun p hp => hr p (List.mem_append_left _ hp))
       have eQ := k6 ρ (j + rr.ps.length) (fun k l hk => by
         have := hu (rr.ps.length + k) l (by rw [lX, l1, if_neg (by omega), Nat.add_sub_cancel_left]; exact hk); rw [Nat.add_assoc]; exact this) (fun p hp => hr p (List.mem_append_right _ hp))
       have hrv : ∀ os, rr.rv os = (match rr.agg, os with | false, [o] => RV.one o | _, os => RV.agg os) := by
         intro os; unfold RP.rv
         split
         · rename_i t' e'; exact absurd e' (hnp t')
         · rfl
       rcases g3 with ⟨ha, rfl⟩ | ⟨ha, rfl⟩
       · have er : rr.rv (dq rr.ps (ca rs t) x1).1 = .agg (dq rr.ps (ca rs t) x1).1 := by rw [hrv, ha]
         rw [er]; exact ⟨vs.toArray, vals, rfl, by simpa using hL, by rw [l3]; exact eQ⟩
       · have hlen : cs.length = 1 := g1.1; have : (dq rr.ps (ca rs t) x1).1.length = 1 := by rw [l3, ← l2, hlen]
         cases ho : (dq rr.ps (ca rs t) x1).1 with
         | nil => rw [ho] at this; cases this
         | cons o l => cases l with
           | cons _ _ => rw [ho] at this; simp at this
           | nil =>
             have er : rr.rv [o] = .one o := by rw [hrv, ha]
             rw [er]; rw [ho] at hL; refine ⟨v, vals, rfl, hL, ?_⟩; rw [← l2, hlen] at eQ; exact eQ
     · rw [UT] at hu; have hb := hu 0 (.box b) rfl; have hL := (h0 ρ (j + 1)).2.2 (fun k l hk => by
         have := hu (k + 1) l (by
           show nth (u1 ++ u2) k = _; rw [lX, if_pos (Gq hk)]; exact hk)
         rwa [show j + (k + 1) = j + 1 + k by omega] at this) (fun p hp => hr p (List.mem_append_left _ hp))
       have eQ := k6 ρ (j + (rr.ps.length + 1)) (fun k l hk => by
         have := hu (rr.ps.length + k + 1) l (by
           show nth (u1 ++ u2) (rr.ps.length + k) = _; rw [lX, l1, if_neg (by omega), Nat.add_sub_cancel_left]; exact hk)
         rwa [show j + (rr.ps.length + k + 1) = j + (rr.ps.length + 1) + k by omega] at this) (fun p hp => hr p (List.mem_append_right _ hp))
       have er : rr.rv (dq rr.ps (ca rs t) x1).1 = .ptr (dq rr.ps (ca rs t) x1).1 := by unfold RP.rv; rw [Ps]
       rw [er]; subst ze; refine ⟨v, vals, rfl, ⟨c.bx b, us, ty, hv, ?_, OY, hL⟩, by rw [l3]; exact eQ⟩; rw [Nat.add_zero] at hb; exact (Cz.j4 eW).trans hb
def GG (mu : Mu) (lc : Nat → Nat → Loc) (i : Nat) (ps : List AP) (dt : List AV) (vs : List Value) : Prop :=
 ∀ (k : Nat) (p : AP) (av : AV) (v : Value), ps[k]? = some p → dt[k]? = some av → vs[k]? = some v → match p, av with
   | .io _ _, .io A => v.oneCell' = true ∧ je (lc (i + k) 0) A.r.width 0 A.xs.length v ∧ Me.arr (i + k) 0 1 A.r.width A.xs.length (lc (i + k) 0) ∈ mu.an
   | .box _ _, .box _ => ∃ nB, v = .pointer (some ⟨nB, 0, none⟩) ∧ Me.box (i + k) 1 nB ∈ mu.an
   | .val _ _, .val _ _ => True
   | .bB qs, .bB os => ∃ us, v = .agg us ∧ ∀ j A, os[j]? = some (.own A) → (∃ r d, qs[j]? = some (.own r d)) ∧ ∃ u, us.toList[j]? = some u ∧ u.oneCell' = true ∧ je (lc (i + k) j) A.r.width 0 A.xs.length u ∧ Me.arr (i + k) j 1 A.r.width A.xs.length (lc (i + k) j) ∈ mu.an
   | _, _ => False
theorem sQ {w0 : World} {mu : Mu} {c : Cz} {st : St} {a : Act} {w : World} (h : Rel w0 mu c st a w) {lc : Nat → Nat → Loc} : (ps : List AP) → (i : Nat) → (dt : List AV) → (vs : List Value) → ps.length = dt.length → ps.length = vs.length → GG mu lc i ps dt vs → {x : ar (bk ps)} → {u : List Lb} → {r : List (Nat × Nat)} → su st i ps = some (x, u, r) →
   (∀ l ∈ u, l.real = true) ∧ ∃ tb : List (Lb × Lb), tb.map (·.1) = u ∧ (∀ p ∈ tb, p.2.jV = true) ∧ ∀ ρ : Lb → Option Lb, (∀ p ∈ tb, ρ p.1 = some p.2) → (∀ p ∈ r, ρ (.sp p.1 p.2) = none) → iq (c.map ρ) w lc i dt vs (l6 ps x)
 | [], i, dt, vs, h1, h2, _, x, u, r, he => by
   injection he with he; injection he with e1 e2; injection e2 with e2 e3; subst e2 e3; have : dt = [] := by simpa using h1.symm
   subst this; exact ⟨by simp, [], rfl, by simp, fun _ _ _ => rfl⟩
 | p :: ps, i, [], vs, h1, _, _, _, _, _, _ => by simp at h1
 | p :: ps, i, _ :: _, [], _, h2, _, _, _, _, _ => by simp at h2
 | p :: ps, i, av :: dt, v :: vs, h1, h2, hl, x, u, r, he => by
   have xr : GG mu lc (i + 1) ps dt vs := fun k p' Lu v' e1 e2 e3 => by
     have := hl (k + 1) p' Lu v' (by simpa using e1) (by simpa using e2) (by simpa using e3)
     rwa [show i + (k + 1) = i + 1 + k by omega] at this
   have Uu : ps.length = dt.length := by simpa using h1
   have h2' : ps.length = vs.length := by simpa using h2
   have h0 := hl 0 p av v rfl rfl rfl
   cases p with
   | val agg qs =>
     cases av with
     | val RL os =>
       obtain ⟨g1, tb, g2, g3, g4⟩ := sQ h ps (i + 1) dt vs Uu h2' xr he; exact ⟨g1, tb, g2, g3, fun ρ hp hr => g4 ρ hp hr⟩
     | io _ => exact h0.elim
     | box _ => exact h0.elim
     | bB _ => exact h0.elim
   | io rr dd =>
     cases av with
     | val _ _ => exact h0.elim
     | box _ => exact h0.elim
     | bB _ => exact h0.elim
     | io A =>
       obtain ⟨q1, q2, q3⟩ := h0; simp only [Nat.add_zero] at q2 q3; unfold su at he; obtain ⟨q, hq, he⟩ := Option.bind_eq_some_iff.1 he; obtain ⟨p, hp, he⟩ := Option.map_eq_some_iff.1 he; obtain ⟨x2, u2, r2⟩ := q; obtain ⟨x1, u1, r1⟩ := p; injection he with e1 e2; injection e2 with e2 e3; subst e1 e2 e3; obtain ⟨g1, tb, g2, g3, g4⟩ := sQ h ps (i + 1) dt vs Uu h2' xr hq; have RN := h.dJ _ q3; have hV : dU c st w (.one (.ref i 0 1 .full)) v := ⟨q1, RN.1, fun A' dQ => by
         obtain ⟨e1, e2, e3⟩ := RN.2 A' dQ; rw [e1, e3]; show je (lc i 0) A.r.width 0 A'.xs.length v; rw [e2]; exact q2⟩
       obtain ⟨a1, a2, ta, a3, a4, a5⟩ := zx h i hV hp; obtain ⟨A', dQ, Z3⟩ : ∃ A', aQ st i 0 1 = some A' ∧ ∃ xs, bw rr A'.xs = some xs ∧ x1.1 = xs := by
         have hp : (bif Nat.beq i i && (Nat.beq 0 0 && Nat.beq 1 1) then ((aQ st i 0 1).bind fun A => bif A.own && A.md.is dd then (bw rr A.xs).map fun xs => ((xs, x2), [Lb.sp i 0], ([] : List (Nat × Nat))) else none) else none) = some (x1, u1, r1) := hp; obtain ⟨_, hp1⟩ := aH hp; obtain ⟨A', dQ, hp2⟩ := Option.bind_eq_some_iff.1 hp1; obtain ⟨_, hp3⟩ := aH hp2; obtain ⟨xs, Q6, e⟩ := Option.map_eq_some_iff.1 hp3; injection e with e _; exact ⟨A', dQ, xs, Q6, by rw [← e]⟩
       obtain ⟨xs, Q6, ex⟩ := Z3; obtain ⟨e1, e2, e3⟩ := RN.2 A' dQ; refine ⟨fun l hl => ?_, ta ++ tb, by simp [a3, g2], fun p hp => ?_, fun ρ hp hr => ?_⟩
       · rcases List.mem_append.1 hl with hl | hl
         · exact a2 l hl
         · exact g1 l hl
       · rcases List.mem_append.1 hp with hp | hp
         · exact a4 p hp
         · exact g3 p hp
       · have YS := a5 ρ (fun p ku => hp p (List.mem_append_left _ ku)) (fun p ku => hr p (List.mem_append_left _ ku)); have eQ := g4 ρ (fun p ku => hp p (List.mem_append_right _ ku)) (fun p ku => hr p (List.mem_append_right _ ku)); have YS : OwnAt (c.map ρ) w (.bG i 0) (c.lc i 0) { r := rr, own := true, xs := x1.1, md := dd } v := YS; rw [e3] at YS; obtain ⟨er, Oc⟩ := a7 Q6; refine ⟨{ r := rr, own := true, xs := x1.1, md := dd }, l6 ps x1.2, rfl, ?_, ?_, YS, ?_⟩
         · show rr.width = A.r.width; rw [← er]; exact e1
         · show List.length (x1.1 : List (ar rr)) = A.xs.length; rw [ex, Oc, ← e2]
           cases er
           rfl
         · have : x1.2 = x2 := a1; rw [this]; exact eQ
   | bB qs =>
     cases av with
     | val _ _ => exact h0.elim
     | io _ => exact h0.elim
     | box _ => exact h0.elim
     | bB os =>
       obtain ⟨us, rfl, q1⟩ := h0; simp only [Nat.add_zero] at q1; unfold su at he; obtain ⟨q, hq, he⟩ := Option.bind_eq_some_iff.1 he; obtain ⟨p, hp, he⟩ := Option.map_eq_some_iff.1 he; obtain ⟨x2, u2, r2⟩ := q; obtain ⟨x1, u1⟩ := p; injection he with e1 e2; injection e2 with e2 e3; subst e1 e2 e3; obtain ⟨g1, tb, g2, g3, g4⟩ := sQ h ps (i + 1) dt vs Uu h2' xr hq; obtain ⟨a1, a2, a3⟩ := jr qs 0 (bk ps) x2 hp
       let f : Lb → Lb × Lb := fun l => (l, match l with | .sp x y => .bG x y | l => l)
       refine ⟨fun l hl => ?_, u1.map f ++ tb, ?_, fun p hp => ?_, fun ρ hp hr => ?_⟩
       · rcases List.mem_append.1 hl with hl | hl
         · obtain ⟨k, rfl⟩ := a2 l hl; rfl
         · exact g1 l hl
       · rw [List.map_append, List.map_map, g2]
         congr 1
         exact List.map_id u1
       · rcases List.mem_append.1 hp with hp | hp
         · obtain ⟨l, hl, rfl⟩ := List.mem_map.1 hp; obtain ⟨k, rfl⟩ := a2 l hl; rfl
         · exact g3 p hp
       · have eQ := g4 ρ (fun p ku => hp p (List.mem_append_right _ ku)) hr; refine ⟨(mh qs (bk ps) x1).1, l6 ps (mh qs (bk ps) x1).2, rfl, ⟨us, rfl, fun j A hj => ?_⟩, by rw [a1]; exact eQ⟩; obtain ⟨⟨r, dd, hqr⟩, u, b1, b2, b3, b4⟩ := q1 j A hj; obtain ⟨A', xs, c1, c2, cd, c3, c4, c5⟩ := a3 j r dd hqr; rw [Nat.zero_add] at c1 c5; obtain ⟨e1, e2, e3⟩ := (h.dJ _ b4).2 A' c1; obtain ⟨er, Oc⟩ := a7 c3; have ha := wO h c1; have hρ : ρ (.sp i j) = some (.bG i j) := hp (.sp i j, .bG i j) (List.mem_append_left _ (List.mem_map.2 ⟨_, c5, rfl⟩)); have hw : r.width = A.r.width := by rw [← er]; exact e1
         have hn : xs.length = A.xs.length := by
           rw [← e2, Oc]
           cases er
           rfl
         refine ⟨_, u, c4, b1, hw, hn, b2, ?_, rfl, ?_⟩
         · show je (lc i j) r.width 0 xs.length u; rw [hw, hn]; exact b3
         · show match lc i j with
             | .nil => xs = []
             | .at b off cap => _
           obtain ⟨rA, al9, xsA, mdA⟩ := A'; simp only at er c2 cd; subst er c2 cd; have Oc : xs = xsA := Oc; subst Oc; unfold bI at ha; have e3 : c.lc i j = lc i j := e3; rw [e3] at ha
           cases gV : lc i j with
           | nil => rw [gV] at ha; exact ha
           | «at» b off cap =>
             rw [gV] at ha; obtain ⟨k0, k2, k3, k4⟩ := ha; exact ⟨(Cz.j4 k0).trans hρ, k2, k3, k4.map hρ⟩
   | box Gk qs =>
     cases av with
     | val _ _ => exact h0.elim
     | io _ => exact h0.elim
     | bB _ => exact h0.elim
     | box os =>
       obtain ⟨nB, q1, q2⟩ := h0; simp only [Nat.add_zero] at q2; unfold su at he; obtain ⟨q, hq, he⟩ := Option.bind_eq_some_iff.1 he; obtain ⟨p, hp, he⟩ := Option.map_eq_some_iff.1 he; obtain ⟨x2, u2, r2⟩ := q; obtain ⟨x1, u1, r1⟩ := p; injection he with e1 e2; injection e2 with e2 e3; subst e1 e2 e3; obtain ⟨g1, tb, g2, g3, g4⟩ := sQ h ps (i + 1) dt vs Uu h2' xr hq; have RN := h.dJ _ q2; have hV : dU c st w (.one (.ptr i 1 0)) v := ⟨by rw [q1]; rfl, RN.1, fun cs tz => by rw [RN.2 cs tz, q1]⟩; obtain ⟨a1, a2, ta, a3, a4, a5⟩ := zx h i hV hp; refine ⟨fun l hl => ?_, ta ++ tb, by simp [a3, g2], fun p hp => ?_, fun ρ hp hr => ?_⟩
       · rcases List.mem_append.1 hl with hl | hl
         · exact a2 l hl
         · exact g1 l hl
       · rcases List.mem_append.1 hp with hp | hp
         · exact a4 p hp
         · exact g3 p hp
       · have YS := a5 ρ (fun p ku => hp p (List.mem_append_left _ ku)) (fun p ku => hr p (List.mem_append_left _ ku)); have eQ := g4 ρ (fun p ku => hp p (List.mem_append_right _ ku)) (fun p ku => hr p (List.mem_append_right _ ku)); refine ⟨(dq qs (bk ps) x1).1, l6 ps (dq qs (bk ps) x1).2, rfl, YS, ?_⟩; have : (dq qs (bk ps) x1).2 = x2 := a1; rw [this]; exact eQ
end Go.TM
namespace Go.TM
open Go Go.RowKit
def start (n : Nat) (ps : List AP) (x : ar (aE (ps.map some))) : St := nC 0 (bW (ps.map some) x ++ List.replicate (n + 1 - ps.length) none)
theorem pU : (l : List (Option AP)) → (x : ar (aE l)) → (bW l x).length = l.length
 | [], _ => rfl
 | none :: l, x => by
   show (bW l x).length + 1 = l.length + 1; rw [pU l x]
 | some p :: l, x => by
   show (bW l (p.av (aE l) x).2).length + 1 = l.length + 1; rw [pU l _]
theorem wR {c : Cz} {w : World} {lc : Nat → Nat → Loc} : (ps : List AP) → (i : Nat) → (dt : List AV) → (vs : List Value) → {x : ar (aE (ps.map some))} → eJ ps dt = some x → xJ c w lc i dt vs →
   ps.length = dt.length ∧ ps.length = vs.length ∧ ∀ k av, (bW (ps.map some) x)[k]? = some (some av) → ∃ v, vs[k]? = some v ∧ rT c w (i + k) (lc (i + k)) av v
 | [], i, [], vs, x, hx, h => by
   have : vs = [] := h; subst this; exact ⟨rfl, rfl, fun k av hk => by
     have hk : ([] : List (Option AV))[k]? = some (some av) := hk; simp at hk⟩
 | [], _, _ :: _, _, _, hx, _ => by simp [eJ] at hx
 | _ :: _, _, [], _, _, hx, _ => by simp [eJ] at hx
 | p :: ps, i, av :: dt, vs, x, hx, h => by
   obtain ⟨v, l, rfl, h1, h2⟩ := h; unfold eJ at hx
   cases hy : eJ ps dt with
   | none => simp [hy] at hx
   | some y =>
     simp only [hy] at hx; obtain ⟨g1, g2, g3⟩ := wR ps (i + 1) dt l hy h2; obtain ⟨q1, q2⟩ := Ie (c := c) (w := w) (i := i) (lc := lc i) hx; refine ⟨by simp [g1], by simp [g2], fun k Lu hk => ?_⟩
     cases k with
     | zero =>
       have hk : some (some (p.av (aE (ps.map some)) x).1) = some (some Lu) := hk; simp only [Option.some.injEq] at hk; subst hk; exact ⟨v, rfl, q2 v h1⟩
     | succ k =>
       have hk : (bW (ps.map some) (p.av (aE (ps.map some)) x).2)[k]? = some (some Lu) := hk; rw [q1] at hk; obtain ⟨v', h3, h4⟩ := g3 k Lu hk; exact ⟨v', by simpa using h3, by rw [show i + (k + 1) = i + 1 + k by omega]; exact h4⟩
def jf (lc : Nat → Loc) (i : Nat) : (j : Nat) → List OV → List Me
 | _, [] => []
 | j, .own A :: os => .arr i j 1 A.r.width A.xs.length (lc j) :: jf lc i (j + 1) os
 | j, .int _ _ :: os => jf lc i (j + 1) os
 | j, .bool _ :: os => jf lc i (j + 1) os
 | j, .str _ :: os => jf lc i (j + 1) os
 | j, .shr _ _ :: os => jf lc i (j + 1) os
 | j, .lf _ _ :: os => jf lc i (j + 1) os
 | j, .fn _ _ _ :: os => jf lc i (j + 1) os
 | j, .dD :: os => jf lc i (j + 1) os
theorem zB {lc : Nat → Loc} {i : Nat} : (os : List OV) → (j : Nat) → ∀ p ∈ jf lc i j os, ∃ k A, os[k]? = some (.own A) ∧ p = .arr i (j + k) 1 A.r.width A.xs.length (lc (j + k))
 | [], j, p, h => by simp [jf] at h
 | o :: os, j, p, h => by
   have rest : p ∈ jf lc i (j + 1) os → ∃ k A, (o :: os)[k]? = some (.own A) ∧ p = .arr i (j + k) 1 A.r.width A.xs.length (lc (j + k)) := by
     intro h; obtain ⟨k, A, h1, h2⟩ := zB os (j + 1) p h; refine ⟨k + 1, A, by simpa using h1, ?_⟩; rw [h2, show j + 1 + k = j + (k + 1) by omega]
   cases o with
   | own A =>
     rcases List.mem_cons.1 h with h | h
     · exact ⟨0, A, rfl, h⟩
     · exact rest h
   | _ => exact rest h
theorem BE {lc : Nat → Loc} {i : Nat} : (os : List OV) → (j : Nat) → ∀ (k : Nat) (A : gP), os[k]? = some (.own A) → Me.arr i (j + k) 1 A.r.width A.xs.length (lc (j + k)) ∈ jf lc i j os
 | [], j, k, A, h => by simp at h
 | o :: os, j, 0, A, h => by
   simp only [List.getElem?_cons_zero, Option.some.injEq] at h; subst h; exact List.mem_cons_self
 | o :: os, j, k + 1, A, h => by
   have := BE (lc := lc) (i := i) os (j + 1) k A (by simpa using h); rw [show j + 1 + k = j + (k + 1) by omega] at this
   cases o with
   | own A => exact List.mem_cons_of_mem _ this
   | _ => exact this
def Df (lc : Nat → Nat → Loc) : (i : Nat) → List AV → List Value → List Me
 | _, [], _ => []
 | _, _ :: _, [] => []
 | i, .val _ _ :: as, _ :: vs => Df lc (i + 1) as vs
 | i, .io A :: as, _ :: vs => .arr i 0 1 A.r.width A.xs.length (lc i 0) :: Df lc (i + 1) as vs
 | i, .bB os :: as, _ :: vs => jf (lc i) i 0 os ++ Df lc (i + 1) as vs
 | i, .box _ :: as, v :: vs => .box i 1 (match v with | .pointer (some ad) => ad.block | _ => 0) :: Df lc (i + 1) as vs
theorem sR {lc : Nat → Nat → Loc} : (i : Nat) → (as : List AV) → (vs : List Value) → ∀ p ∈ Df lc i as vs, ∃ k av v, as[k]? = some av ∧ vs[k]? = some v ∧ ((∃ A, av = .io A ∧ p = .arr (i + k) 0 1 A.r.width A.xs.length (lc (i + k) 0)) ∨ (∃ os, av = .box os ∧ p = .box (i + k) 1 (match v with | .pointer (some ad) => ad.block | _ => 0)) ∨ ∃ os j A, av = .bB os ∧ os[j]? = some (.own A) ∧ p = .arr (i + k) j 1 A.r.width A.xs.length (lc (i + k) j))
 | _, [], _, p, h => by simp [Df] at h
 | _, _ :: _, [], p, h => by simp [Df] at h
 | i, .val _ _ :: as, _ :: vs, p, h => by
   obtain ⟨k, av, v, h1, h2, h3⟩ := sR (i + 1) as vs p h; exact ⟨k + 1, av, v, by simpa using h1, by simpa using h2, by rw [show i + (k + 1) = i + 1 + k by omega]; exact h3⟩
 | i, .io A :: as, v0 :: vs, p, h => by
   rcases List.mem_cons.1 h with h | h
   · exact ⟨0, .io A, v0, rfl, rfl, .inl ⟨A, rfl, h⟩⟩
   · obtain ⟨k, av, v, h1, h2, h3⟩ := sR (i + 1) as vs p h; exact ⟨k + 1, av, v, by simpa using h1, by simpa using h2, by rw [show i + (k + 1) = i + 1 + k by omega]; exact h3⟩
 | i, .box os :: as, v0 :: vs, p, h => by
   rcases List.mem_cons.1 h with h | h
   · exact ⟨0, .box os, v0, rfl, rfl, .inr (.inl ⟨os, rfl, h⟩)⟩
   · obtain ⟨k, av, v, h1, h2, h3⟩ := sR (i + 1) as vs p h; exact ⟨k + 1, av, v, by simpa using h1, by simpa using h2, by rw [show i + (k + 1) = i + 1 + k by omega]; exact h3⟩
 | i, .bB os :: as, v0 :: vs, p, h => by
   rcases List.mem_append.1 h with h | h
   · obtain ⟨j, A, h1, h2⟩ := zB os 0 p h; rw [Nat.zero_add] at h2; exact ⟨0, .bB os, v0, rfl, rfl, .inr (.inr ⟨os, j, A, rfl, h1, h2⟩)⟩
   · obtain ⟨k, av, v, h1, h2, h3⟩ := sR (i + 1) as vs p h; exact ⟨k + 1, av, v, by simpa using h1, by simpa using h2, by rw [show i + (k + 1) = i + 1 + k by omega]; exact h3⟩
theorem Ly {lc : Nat → Nat → Loc} : (i : Nat) → (as : List AV) → (vs : List Value) → as.length = vs.length → ∀ k av v, as[k]? = some av → vs[k]? = some v → (∀ A, av = .io A → Me.arr (i + k) 0 1 A.r.width A.xs.length (lc (i + k) 0) ∈ Df lc i as vs) ∧ (∀ os, av = .box os → Me.box (i + k) 1 (match v with | .pointer (some ad) => ad.block | _ => 0) ∈ Df lc i as vs) ∧ (∀ os, av = .bB os → ∀ j A, os[j]? = some (.own A) → Me.arr (i + k) j 1 A.r.width A.xs.length (lc (i + k) j) ∈ Df lc i as vs)
 | _, [], _, _, k, av, v, h, _ => by simp at h
 | _, _ :: _, [], hn, _, _, _, _, _ => by simp at hn
 | i, a0 :: as, v0 :: vs, hn, 0, av, v, h1, h2 => by
   simp only [List.getElem?_cons_zero, Option.some.injEq] at h1 h2; subst h1 h2; refine ⟨fun A e => ?_, fun os e => ?_, fun os e j A hj => ?_⟩
   · subst e; exact List.mem_cons_self
   · subst e; exact List.mem_cons_self
   · subst e; have := BE (lc := lc i) (i := i) os 0 j A hj; rw [Nat.zero_add] at this; exact List.mem_append_left _ this
 | i, a0 :: as, v0 :: vs, hn, k + 1, av, v, h1, h2 => by
   obtain ⟨g1, g2, g3⟩ := Ly (i + 1) as vs (by simpa using hn) k av v (by simpa using h1) (by simpa using h2); have e : i + (k + 1) = i + 1 + k := by omega
   rw [e]
   cases a0 with
   | val _ _ => exact ⟨g1, g2, g3⟩
   | io _ => exact ⟨fun A h => List.mem_cons_of_mem _ (g1 A h), fun os h => List.mem_cons_of_mem _ (g2 os h), fun os h j A hj => List.mem_cons_of_mem _ (g3 os h j A hj)⟩
   | box _ => exact ⟨fun A h => List.mem_cons_of_mem _ (g1 A h), fun os h => List.mem_cons_of_mem _ (g2 os h), fun os h j A hj => List.mem_cons_of_mem _ (g3 os h j A hj)⟩
   | bB _ => exact ⟨fun A h => List.mem_append_right _ (g1 A h), fun os h => List.mem_append_right _ (g2 os h), fun os h j A hj => List.mem_append_right _ (g3 os h j A hj)⟩
def lJ (ps : List AP) (mu : Mu) : Prop :=
 ∀ p ∈ mu.an, (∃ i r W n l, p = .arr i 0 1 W n l ∧ ∃ d, ps[i]? = some (.io r d)) ∨ (∃ i nB b qs, p = .box i 1 nB ∧ ps[i]? = some (.box b qs)) ∨ ∃ i j W n l qs, p = .arr i j 1 W n l ∧ ps[i]? = some (.bB qs)
theorem Dg : (ps : List OP) → (t : RT) → (os : List OV) → (y : ar t) → {x : ar (lB ps t)} → cX ps t os y = some x → ∀ (j : Nat) (A : gP), os[j]? = some (.own A) → (∃ r d, ps[j]? = some (.own r d)) ∧ ∃ B : gP, (dq ps t x).1[j]? = some (.own B) ∧ B.r.width = A.r.width ∧ B.xs.length = A.xs.length
 | [], t, [], y, x, h => by intro k A hk; simp at hk
 | [], _, _ :: _, _, _, h => by simp [cX] at h
 | _ :: _, _, [], _, _, h => by simp [cX] at h
 | p :: ps, t, o :: os, y, x, h => by
   unfold cX at h
   cases h1 : qO p o with
   | none => simp [h1] at h
   | some a =>
     cases h2 : cX ps t os y with
     | none => simp [h1, h2] at h
     | some z =>
       simp only [h1, h2] at h; have h : (a, z) = x := Option.some.inj h; subst h; intro j A hj
       cases j with
       | succ j =>
         obtain ⟨⟨r, d, q1⟩, B, q2, q3⟩ := Dg ps t os y h2 j A (by simpa using hj); exact ⟨⟨r, d, by simpa using q1⟩, B, (by show (dq ps t z).1[j]? = _; exact q2), q3⟩
       | zero =>
         simp only [List.getElem?_cons_zero, Option.some.injEq] at hj; subst hj
         cases p with
         | own r d =>
           have h1 : (bif A.md.is d then bw r A.xs else none) = some a := h1; obtain ⟨_, h1⟩ := aH h1; obtain ⟨er, Oc⟩ := a7 h1; refine ⟨⟨r, d, rfl⟩, { r := r, own := true, xs := a, md := d }, rfl, by show r.width = _; rw [← er], ?_⟩; show List.length (a : List (ar r)) = _; rw [Oc]
           cases er
           rfl
         | _ => cases h1
theorem BF : (ps : List AP) → (dt : List AV) → {x : ar (aE (ps.map some))} → eJ ps dt = some x → ∀ (k : Nat) (av : AV), dt[k]? = some av → ∃ p : AP, ps[k]? = some p ∧ match p, av with
   | .io _ _, .io A => ∃ B : gP, (bW (ps.map some) x)[k]? = some (some (.io B)) ∧ B.r.width = A.r.width ∧ B.xs.length = A.xs.length
   | .box _ _, .box _ => True
   | .val _ _, .val _ _ => True
   | .bB qs, .bB os => ∃ zn : List OV, (bW (ps.map some) x)[k]? = some (some (AV.bB zn)) ∧ ∀ (j : Nat) (A : gP), os[j]? = some (OV.own A) → (∃ r d, qs[j]? = some (OP.own r d)) ∧ ∃ B : gP, zn[j]? = some (OV.own B) ∧ B.r.width = A.r.width ∧ B.xs.length = A.xs.length
   | _, _ => False
 | [], [], _, _ => by intro k av h; simp at h
 | [], _ :: _, _, hx => by simp [eJ] at hx
 | _ :: _, [], _, hx => by simp [eJ] at hx
 | p :: ps, av :: dt, x, hx => by
   unfold eJ at hx
   cases hy : eJ ps dt with
   | none => simp [hy] at hx
   | some y =>
     simp only [hy] at hx; have e2 : (p.av (aE (ps.map some)) x).2 = y := (Ie (c := ⟨fun _ => 0, fun _ _ => .nil, fun _ => none⟩) (w := default) (i := 0) (lc := fun _ => .nil) hx).1; intro k Lu hk
     cases k with
     | zero =>
       simp only [List.getElem?_cons_zero, Option.some.injEq] at hk; subst hk; refine ⟨p, rfl, ?_⟩
       cases p with
       | val agg qs => cases av with
         | val _ _ => trivial
         | io _ => cases agg <;> cases hx
         | box _ => cases agg <;> cases hx
         | bB _ => cases agg <;> cases hx
       | io r d => cases av with
         | val _ _ => cases hx
         | box _ => cases hx
         | bB _ => cases hx
         | io A =>
           have hx : (bif A.md.is d then (match bw r A.xs with | some xs => some ((xs, y) : ar (.cons (.sl r) (aE (ps.map some)))) | none => none) else none) = some x := hx; obtain ⟨_, hx⟩ := aH hx
           cases hc : bw r A.xs with
           | none => rw [hc] at hx; cases hx
           | some xs =>
             rw [hc] at hx; injection hx with hx; obtain ⟨er, Oc⟩ := a7 hc; refine ⟨{ r := r, own := true, xs := x.1, md := d }, rfl, by show r.width = _; rw [← er], ?_⟩; show List.length (x.1 : List (ar r)) = _; rw [← hx]; show xs.length = _; rw [Oc]
             cases er
             rfl
       | box b qs => cases av with
         | val _ _ => cases hx
         | io _ => cases hx
         | bB _ => cases hx
         | box _ => trivial
       | bB qs => cases av with
         | val _ _ => cases hx
         | io _ => cases hx
         | box _ => cases hx
         | bB os =>
           have hx : cX qs (aE (ps.map some)) os y = some x := hx; exact ⟨_, rfl, Dg qs _ os y hx⟩
     | succ k =>
       obtain ⟨p', h1, h2⟩ := BF ps dt hy k Lu (by simpa using hk); refine ⟨p', by simpa using h1, ?_⟩; have eh : (bW ((p :: ps).map some) x)[k + 1]? = (bW (ps.map some) y)[k]? := by
         show (bW (ps.map some) (p.av (aE (ps.map some)) x).2)[k]? = _; rw [e2]
       cases p' <;> cases Lu <;> simp only at h2 ⊢ <;> (try exact h2)
       · obtain ⟨B, q1, q2, q3⟩ := h2; exact ⟨B, eh.trans q1, q2, q3⟩
       · obtain ⟨zn, q1, q2⟩ := h2; exact ⟨zn, eh.trans q1, q2⟩
end Go.TM
namespace Go.TM
open Go Go.RowKit
theorem Ig {P : Program} {fn : Func} {tm : Array Value} {w : World} {vals : List Value} (h : (fn.results.toList.mapM (De tm)).run P w = .ok vals w) :
   (results fn tm).run P w = .ok (if hs : vals.toArray.size = 1 then vals.toArray[0] else .tuple vals.toArray) w := by
 have e : results fn tm = (do let vs ← fn.results.mapM (De tm); pure (if h : vs.size = 1 then vs[0] else .tuple vs) : Sem Value) := rfl; rw [e, Array.mapM_eq_mapM_toList]; simp [Sem.run_bind, h]
theorem Ih {c : Cz} {w : World} {mu : Mu} {lc : Nat → Nat → Loc} {dt : List AV} {args : Array Value} (hH : Handed c w mu) (hA : xJ c w lc 0 dt args.toList) {ps : List AP} {x : ar (aE (ps.map some))} (hx : eJ ps dt = some x) {n : Nat} (hn : ps.length ≤ n) :
   ∃ (Cm : Mu) (c' : Cz), Cm.m = mu.m ∧ Cm.ok = mu.ok ∧ lJ ps Cm ∧ GG Cm lc 0 ps dt args.toList ∧ args.size = ps.length ∧ dt.length = ps.length ∧
     Rel w Cm c' (start n ps x) { tmps := args ++ Array.replicate (n - args.size) undef, defers := [] } w := by
 obtain ⟨l1, l2, hold⟩ := wR ps 0 dt args.toList hx hA; have Pt := BF ps dt hx; have Dh : args.size = ps.length := by rw [l2]; simp
 let a : Act := { tmps := args ++ Array.replicate (n - args.size) undef, defers := [] }
 have Tm : ∀ k v, args.toList[k]? = some v → a.eval (.tmp k) = v := by
   intro k v hk; have bN : k < args.size := by
     have := (List.getElem?_eq_some_iff.1 hk).1; simpa using this
   show (args ++ Array.replicate (n - args.size) undef).getD k undef = v; rw [Array.getD_eq_getD_getElem?, Array.getElem?_append_left bN]; rw [Array.getElem?_toList] at hk; rw [hk]; rfl
 let Cm : Mu := { m := mu.m, ok := mu.ok, an := Df lc 0 dt args.toList }
 have hlen : (bW (ps.map some) x ++ List.replicate (n + 1 - ps.length) none).length = n + 1 := by
   rw [List.length_append, pU]; simp; omega
 have HH : ∀ (i : Nat) (av : AV), (bW (ps.map some) x ++ List.replicate (n + 1 - ps.length) none)[i]? = some (some av) → (bW (ps.map some) x)[i]? = some (some av) := by
   intro i av hi
   by_cases h : i < (bW (ps.map some) x).length
   · rwa [List.getElem?_append_left h] at hi
   · rw [List.getElem?_append_right (by omega), List.getElem?_replicate] at hi
     split at hi <;> simp at hi
 have Az : Aq w Cm c w := ⟨fun b l hb => ⟨hH.lt b l hb, (hH.lb b l hb).imp id fun hh => .inr ((hH.m b).2 ⟨l, hb, hh⟩)⟩, fun b _ hb => .inr ((hH.ok b).2 hb), ⟨rfl, rfl, rfl, Nat.le_refl _⟩, fun _ _ _ => rfl⟩; have UU : AA c w lc a 0 (bW (ps.map some) x ++ List.replicate (n + 1 - ps.length) none) := by
   intro i av hi; obtain ⟨v, h1, h2⟩ := hold i av (HH i av hi); have := Tm i v h1; rw [Nat.zero_add] at h2 ⊢; rw [this]; exact h2
 have Tn : ∀ k av v, dt[k]? = some av → args.toList[k]? = some v → rT c w k (lc k) av v := by
   have key : ∀ (dt : List AV) (i : Nat) (vs : List Value), xJ c w lc i dt vs → ∀ k av v, dt[k]? = some av → vs[k]? = some v → rT c w (i + k) (lc (i + k)) av v := by
     intro dt
     induction dt with
     | nil => intro i vs _ k av v h; simp at h
     | cons a0 dt ih =>
       intro i vs h k av v h1 h2; obtain ⟨v0, l, rfl, g1, g2⟩ := h
       cases k with
       | zero => simp at h1 h2; subst h1 h2; exact g1
       | succ k =>
         have := ih (i + 1) l g2 k av v (by simpa using h1) (by simpa using h2)
         rwa [show i + 1 + k = i + (k + 1) by omega] at this
   intro k av v h1 h2; have := key dt 0 args.toList hA k av v h1 h2
   rwa [Nat.zero_add] at this
 have Z4 : ∀ p ∈ Cm.an, Pj (bW (ps.map some) x ++ List.replicate (n + 1 - ps.length) none) lc a p := by
   intro p hp; obtain ⟨k, av, v, h1, h2, h3⟩ := sR 0 dt args.toList p hp; have hk : k < ps.length := by rw [l1]; exact (List.getElem?_eq_some_iff.1 h1).1
   simp only [Nat.zero_add] at h3; obtain ⟨p', q1, q2⟩ := Pt k av h1; rcases h3 with ⟨A, rfl, rfl⟩ | ⟨os, rfl, rfl⟩ | ⟨os, j, A, rfl, hj, rfl⟩
   · refine ⟨rfl, by rw [hlen]; omega, fun Lu UW => .inl ?_⟩
     cases p' with
     | io r dd =>
       obtain ⟨B, e1, e2, e3⟩ := q2; have := HH k Lu UW; rw [e1] at this; simp only [Option.some.injEq] at this; exact ⟨B, this.symm, fun _ => ⟨e2, e3, rfl⟩⟩
     | val _ _ => exact q2.elim
     | box _ _ => exact q2.elim
     | bB _ => exact q2.elim
   · refine ⟨rfl, by rw [hlen]; omega, fun zn _ => ?_⟩; obtain ⟨nB, vs, ty, e1, _⟩ := Tn k _ v h1 h2; rw [Tm k v h2, e1]
   · refine ⟨rfl, by rw [hlen]; omega, fun Lu UW => .inr ?_⟩
     cases p' with
     | io r dd => exact q2.elim
     | val _ _ => exact q2.elim
     | box _ _ => exact q2.elim
     | bB qs =>
       obtain ⟨zn, e1, e2⟩ := q2; have := HH k Lu UW; rw [e1] at this; simp only [Option.some.injEq] at this; obtain ⟨_, B, e3, e4, e5⟩ := e2 j A hj; refine ⟨zn, this.symm, fun A' dQ => ?_⟩; rw [e3] at dQ; injection dQ with dQ; injection dQ with dQ; subst dQ; exact ⟨e4, e5, rfl⟩
 obtain ⟨c', hR⟩ := Rel.Lw (a := a) Az rfl UU Z4; refine ⟨Cm, c', rfl, rfl, fun p hp => ?_, fun k p av v h0 h1 h2 => ?_, Dh, l1.symm, hR⟩
 · obtain ⟨k, av, v, h1, h2, h3⟩ := sR 0 dt args.toList p hp; simp only [Nat.zero_add] at h3; obtain ⟨p', q1, q2⟩ := Pt k av h1; rcases h3 with ⟨A, rfl, rfl⟩ | ⟨os, rfl, rfl⟩ | ⟨os, j, A, rfl, hj, rfl⟩
   · cases p' with
     | io r dd => exact .inl ⟨k, r, _, _, _, rfl, dd, q1⟩
     | val _ _ => exact q2.elim
     | box _ _ => exact q2.elim
     | bB _ => exact q2.elim
   · cases p' with
     | io r dd => exact q2.elim
     | val _ _ => exact q2.elim
     | box b qs => exact .inr (.inl ⟨k, _, b, qs, rfl, q1⟩)
     | bB _ => exact q2.elim
   · cases p' with
     | io r dd => exact q2.elim
     | val _ _ => exact q2.elim
     | box b qs => exact q2.elim
     | bB qs => exact .inr (.inr ⟨k, j, _, _, _, qs, rfl, q1⟩)
 · obtain ⟨p', q1, q2⟩ := Pt k av h1; rw [h0] at q1
   cases q1
   have hh := Tn k av v h1 h2; obtain ⟨a1, a2, a3⟩ := Ly (lc := lc) 0 dt args.toList (by rw [← l1, l2]) k av v h1 h2; rw [Nat.zero_add] at a1 a2 a3 ⊢
   cases p with
   | val _ _ => cases av with
     | val _ _ => trivial
     | io _ => exact q2.elim
     | box _ => exact q2.elim
     | bB _ => exact q2.elim
   | bB qs => cases av with
     | val _ _ => exact q2.elim
     | io _ => exact q2.elim
     | box _ => exact q2.elim
     | bB os =>
       obtain ⟨us, rfl, hl, O3⟩ := hh; obtain ⟨zn, _, e2⟩ := q2; obtain ⟨n1, _⟩ := bc.Ph os 0 _ hl; refine ⟨us, rfl, fun j A hj => ⟨(e2 j A hj).1, ?_⟩⟩; have bN : j < us.toList.length := by rw [n1]; exact (List.getElem?_eq_some_iff.1 hj).1
       have hO : OwnAt c w (.bG k j) (lc k j) A us.toList[j] := O3 j _ _ hj (List.getElem?_eq_getElem bN); exact ⟨_, List.getElem?_eq_getElem bN, hO.1, hO.2.1, a3 os rfl j A hj⟩
   | io r dd => cases av with
     | val _ _ => exact q2.elim
     | box _ => exact q2.elim
     | bB _ => exact q2.elim
     | io A =>
       have hO : OwnAt c w (.bG k 0) (lc k 0) A v := hh; exact ⟨hO.1, hO.2.1, a1 A rfl⟩
   | box _ _ => cases av with
     | val _ _ => exact q2.elim
     | io _ => exact q2.elim
     | bB _ => exact q2.elim
     | box os =>
       obtain ⟨nB, vs, ty, e1, _⟩ := hh; refine ⟨nB, e1, ?_⟩; have := a2 os rfl; rw [e1] at this; exact this
theorem JY {P : Program} {T : ki} (hT : fI P T) {w0 : World} {mu Cm : Mu} (hm : Cm.m = mu.m) (fH : Cm.ok = mu.ok) {c : Cz} {st : St} {a : Act} {w : World} (h : Rel w0 Cm c st a w) {fn : Func} {ps : List AP} {rs : List RP} (ZG : xM T a.tmps fn.results.toList rs)
   {lc : Nat → Nat → Loc} {dt : List AV} {vs : List Value} (h1 : ps.length = dt.length) (h2 : ps.length = vs.length) (hl : GG Cm lc 0 ps dt vs) {e : Ex} {y : ar (ca rs (bk ps))} (hf : zA rs ps e st = some y) :
   (e = .normal ∨ e = .ret) ∧ ∃ v, (results fn a.tmps).run P w = .ok v w ∧ ∃ c', Aq w0 mu c' w ∧ qJ c' w (fA rs (bk ps) y).1 v ∧ iq c' w lc 0 dt vs (l6 ps (fA rs (bk ps) y).2) := by
 have he : e = .normal ∨ e = .ret := by
   cases e with
   | normal => exact .inl rfl
   | ret => exact .inr rfl
   | exit m => cases hf
 refine ⟨he, ?_⟩; have hf : ((su st 0 ps).bind fun x => (Dd st rs (bk ps) x.1).bind fun q => bif tl (bF q.2.1 ++ x.2.1) && apart (bF q.2.1 ++ x.2.1) (q.2.2 ++ x.2.2) then some q.1 else none) = some y := by
   rcases he with rfl | rfl <;> exact hf
 obtain ⟨qx, hqx, hf⟩ := Option.bind_eq_some_iff.1 hf; obtain ⟨qr, hqr, hf⟩ := Option.bind_eq_some_iff.1 hf; obtain ⟨oY, hy⟩ := aH hf; injection hy with hy; obtain ⟨x1, u1, r1⟩ := qx; obtain ⟨x2, u2, r2⟩ := qr; subst hy; rw [Bool.and_eq_true] at oY; obtain ⟨a1, tb, a2, a3, a4⟩ := sQ h ps 0 dt vs h1 h2 hl hqx; obtain ⟨b1, b2, b3, vals, b4, b5, b6⟩ := Fz hT h fn.results.toList rs ZG (bk ps) x1 hqr; have Bz : ∀ l ∈ bF u2 ++ u1, l.real = true := fun l hl => (List.mem_append.1 hl).elim (b3 l) (a1 l)
 have JG := oa _ Bz oY.1; have Et : ∀ p ∈ r2 ++ r1, Lb.sp p.1 p.2 ∉ bF u2 ++ u1 := by
   intro p hp hm; have h1 := List.all_eq_true.1 oY.2 p hp; have h2 := List.all_eq_true.1 h1 _ hm; rw [(Lb.zo rfl).2 rfl] at h2
   cases h2
 let tab := zq .il 0 u2 ++ tb
 have Z5 : tab.map (·.1) = bF u2 ++ u1 := by show (zq .il 0 u2 ++ tb).map _ = _; rw [List.map_append, zr, a2]
 have oT := Classical.propDecidable
 let ρ : Lb → Option Lb := fun l => match look tab l with | some y => some y | none => if l = .out then some .out else none
 have hρt : ∀ p ∈ tab, ρ p.1 = some p.2 := by
   intro p hp; have := zp tab (by rw [Z5]; exact JG) hp; show (match look tab p.1 with | some y => some y | none => _) = _; rw [this]
 have zu : ∀ {l y}, look tab l = some y → l ∈ bF u2 ++ u1 := by
   intro l y hl; have := wP tab hl; rw [← Z5]; exact List.mem_map.2 ⟨_, this, rfl⟩
 have hρr : ∀ p ∈ r2 ++ r1, ρ (.sp p.1 p.2) = none := by
   intro p hp; show (match look tab (.sp p.1 p.2) with | some y => some y | none => if Lb.sp p.1 p.2 = .out then some Lb.out else none) = none
   cases hl : look tab (.sp p.1 p.2) with
   | some y => exact absurd (zu hl) (Et p hp)
   | none => simp
 have hρo : ρ .out = some .out := by
   show (match look tab Lb.out with | some y => some y | none => if Lb.out = Lb.out then some Lb.out else none) = _
   cases hl : look tab Lb.out with
   | some y => have := Bz _ (zu hl); cases this
   | none => simp
 have Az : Aq w0 mu (c.map ρ) w := by
   refine ⟨fun b l hb => ?_, fun b hb hn => ?_, h.kept, by rw [← hm]; exact h.old⟩
   · obtain ⟨k, hk, e⟩ := Cz.map_some hb; obtain ⟨g1, g2⟩ := h.owned b k hk; refine ⟨g1, ?_⟩; rw [← hm]; refine g2.imp (fun e2 => ?_) id; subst e2; rw [hρo] at e
     cases e; rfl
   · rw [← hm, ← fH]
     cases hk : c.own b with
     | none => exact h.free b hb hk
     | some k =>
       have e : ρ k = none := (Cz.j4 (ρ := ρ) hk).symm.trans hn; rcases (h.owned b k hk).2 with g | g | g
       · subst g; rw [hρo] at e; cases e
       · exact absurd g (Nat.not_le_of_lt hb)
       · exact .inl g
 have hX := a4 ρ (fun p hp => hρt p (List.mem_append_right _ hp)) (fun p hp => hρr p (List.mem_append_right _ hp)); have hR := b6 ρ 0 (fun k l hk => by
   have := hρt _ (List.mem_append_left tb (vJ .il 0 u2 k l hk)); exact this) (fun p hp => hρr p (List.mem_append_left _ hp))
 refine ⟨_, Ig b4, c.map ρ, Az, ?_, by rw [b1]; exact hX⟩; have hlen : vals.length = (fA rs (bk ps) x2).1.length := by
   have : rs.length = fn.results.toList.length := by
     have key : ∀ (l : List ResultVar) (m : List RP), xM T a.tmps l m → m.length = l.length := by
       intro l
       induction l with
       | nil => intro m hm; cases m with
         | nil => rfl
         | cons _ _ => exact hm.elim
       | cons v l ih => intro m hm; cases m with
         | nil => exact hm.elim
         | cons r m => simp [ih m hm.2]
     exact key _ _ ZG
   rw [b5, b2, this]
 by_cases hs : vals.toArray.size = 1
 · rw [dif_pos hs]; have za : vals.length = 1 := by simpa using hs
   obtain ⟨v, rfl⟩ : ∃ v, vals = [v] := by
     cases vals with
     | nil => cases za
     | cons v l => cases l with
       | nil => exact ⟨v, rfl⟩
       | cons _ _ => simp at za
   rw [za] at hlen
   cases ho : (fA rs (bk ps) x2).1 with
   | nil => rw [ho] at hlen; cases hlen
   | cons r l => cases l with
     | cons _ _ => rw [ho] at hlen; simp at hlen
     | nil =>
       rw [ho] at hR; exact .inl ⟨r, rfl, hR⟩
 · rw [dif_neg hs]; refine .inr ⟨by rw [← hlen]; simpa using hs, vals.toArray, rfl, by simpa using hR⟩
theorem Ii {P : Program} {T : ki} (hT : fI P T) (hE : u9 P T) {S : ju} (hS : l5 P S) {D : kn} {f : FuncId} {fn : Func} {code : Code} {n : Nat} {ps : List AP} {rs : List RP} {L : mE (ar (ca rs (bk ps)))} {To : Nat → Array Oper → Prop}
   {t : ar (aE (ps.map some)) → Option (ar (ca rs (bk ps)))}
   (hf : P.funcs[f]? = some fn) (hb : fn.body = some code) (hn : fn.ntmps = n) (Rz : ps.length ≤ n) (vd : eR n code = true) (CP : ∀ tm, xM T tm fn.results.toList rs)
   (hL : ∀ (w0 : World) (mu : Mu) (y : ar (ca rs (bk ps))), lJ ps mu → dw (lW P w0 mu n L y) code)
   (hD : ∀ (w0 : World) (mu : Mu), qo (ar (ca rs (bk ps))) P T S D w0 mu n To) (Z6 : dK To code)
   (JZ : ∀ (w0 : World) (mu : Mu) (c : Cz) (a : Act) (w : World) x, Rel w0 mu c (start n ps x) a w → a.tmps.size = n → ∃ c2 gD, Rel w0 mu c2 gD a w ∧ dI T S D L code gD (zA rs ps) = t x) : FnOk P f (kz ps rs t) := by
 intro c w mu lc dt args A y hH hA hs ho; unfold kz at hs
 cases hx : eJ ps dt with
 | none => rw [hx] at hs; cases hs
 | some x =>
   rw [hx] at hs; simp only [Option.some.injEq] at hs; subst hs; have Cn : t x = some y := ho; obtain ⟨Cm, c', hm, fH, Di, LA, Dh, ME, hR⟩ := Ih hH hA hx Rz; refine calls_of_wp hf hb ?_; rw [hn]; have kO : (args ++ Array.replicate (n - args.size) undef).size = n := by simp; omega
   obtain ⟨c2, gD, hR2, Z7⟩ := JZ w Cm c' _ w x hR kO; refine zm (pT hT hE hS w Cm n) (hD w Cm) code vd (hL w Cm y Di) Z6 (fun {e} {c1} {Ak} {a1} {w1} h1 h2 h3 => ?_) hR2 kO (Z7.trans Cn); obtain ⟨he, v, oE, c2, Fi, hV, hX⟩ := JY (P := P) hT hm fH h1 (CP a1.tmps) ME.symm (by rw [← Dh]; simp) LA h3; have C7 : a1.defers = [] ∧ ∃ v, (results fn a1.tmps).run P w1 = .ok v w1 ∧ (∃ v', Ending.returned v = .returned v' ∧ ∃ c', Aq w mu c' w1 ∧ qJ c' w1 (fA rs (bk ps) y).1 v' ∧ iq c' w1 lc 0 dt args.toList (l6 ps (fA rs (bk ps) y).2)) :=
     ⟨h1.plain, v, oE, v, rfl, c2, Fi, hV, hX⟩
   rcases he with rfl | rfl <;> exact C7
theorem Z8 {P : Program} {T : ki} (hT : fI P T) (hE : u9 P T) {S : ju} (hS : l5 P S) {D : kn} {f : FuncId} {fn : Func} {code : Code} {n : Nat} {ps : List AP} {rs : List RP} {L : mE (ar (ca rs (bk ps)))} {To : Nat → Array Oper → Prop}
   {t : ar (aE (ps.map some)) → Option (ar (ca rs (bk ps)))}
   (hf : P.funcs[f]? = some fn) (hb : fn.body = some code) (hn : fn.ntmps = n) (Rz : ps.length ≤ n) (vd : eR n code = true) (CP : ∀ tm, xM T tm fn.results.toList rs)
   (hL : ∀ (w0 : World) (mu : Mu) (y : ar (ca rs (bk ps))), lJ ps mu → dw (lW P w0 mu n L y) code)
   (hD : ∀ (w0 : World) (mu : Mu), qo (ar (ca rs (bk ps))) P T S D w0 mu n To) (Z6 : dK To code)
   (JZ : ∀ x, dI T S D L code (start n ps x) (zA rs ps) = t x) : FnOk P f (kz ps rs t) :=
 Ii hT hE hS hf hb hn Rz vd CP hL hD Z6 (fun _ _ c _ _ x h _ => ⟨c, _, h, JZ x⟩)
end Go.TM
namespace Go.TM
open Go Go.RowKit
def iter {X E : Type} (round : X → Option (Sum X E)) : Nat → X → Option E
 | 0, _ => none
 | n + 1, x => match round x with
   | some (.inl y) => iter round n y
   | some (.inr e) => some e
   | none => none
theorem AB {X E : Type} {round : X → Option (Sum X E)} : (n : Nat) → {x : X} → {e : E} → iter round n x = some e → ∀ m, n ≤ m → iter round m x = some e
 | 0, _, _, h, _, _ => by cases h
 | n + 1, x, e, h, 0, hm => by omega
 | n + 1, x, e, h, m + 1, hm => by
   unfold iter at h ⊢
   cases hr : round x with
   | none => rw [hr] at h; cases h
   | some z => cases z with
     | inl y => rw [hr] at h; exact AB n h m (by omega)
     | inr e' => rw [hr] at h; exact h
noncomputable def aA {X E : Type} (round : X → Option (Sum X E)) (x : X) : Option E :=
 have := Classical.propDecidable (∃ e n, iter round n x = some e)
 if h : ∃ e n, iter round n x = some e then some (Classical.choose h) else none
theorem Dj {X E : Type} {round : X → Option (Sum X E)} {x : X} {e : E} {n : Nat} (h : iter round n x = some e) : aA round x = some e := by
 have hex : ∃ e n, iter round n x = some e := ⟨e, n, h⟩; unfold aA; simp only; rw [dif_pos hex]; obtain ⟨m, hm⟩ := Classical.choose_spec hex; have h1 := AB m hm (max m n) (Nat.le_max_left _ _); have h2 := AB n h (max m n) (Nat.le_max_right _ _); rw [h1] at h2; exact h2
theorem tJ {X E : Type} {round : X → Option (Sum X E)} {x : X} {e : E} (h : aA round x = some e) : ∃ n, iter round n x = some e := by
 unfold aA at h; simp only at h
 split at h
 · rename_i hex; injection h with h; rw [← h]; exact Classical.choose_spec hex
 · cases h
theorem ir {X E : Type} (round : X → Option (Sum X E)) (x : X) : aA round x = match round x with | some (.inl y) => aA round y | some (.inr e) => some e | none => none := by
 cases hr : round x with
 | none =>
   cases h : aA round x with
   | none => rfl
   | some e =>
     obtain ⟨n, hn⟩ := tJ h
     cases n with
     | zero => cases hn
     | succ n => unfold iter at hn; rw [hr] at hn; cases hn
 | some z => cases z with
   | inr e => exact Dj (n := 1) (by unfold iter; rw [hr])
   | inl y =>
     simp only
     cases h : aA round y with
     | some e =>
       obtain ⟨n, hn⟩ := tJ h; exact Dj (n := n + 1) (by unfold iter; rw [hr]; exact hn)
     | none =>
       cases h2 : aA round x with
       | none => rfl
       | some e =>
         obtain ⟨n, hn⟩ := tJ h2
         cases n with
         | zero => cases hn
         | succ n =>
           unfold iter at hn; rw [hr] at hn; rw [Dj hn] at h
           cases h
def Dk (st : St) (hp : List (Option AP)) : Option (ar (aE hp)) :=
 (mI st 0 hp).bind fun q => bif tl q.2.1 && apart q.2.1 q.2.2 then some q.1 else none
def nM (hp : List (Option AP)) (x : ar (aE hp)) : St := nC 0 (bW hp x)
def fO : List AP → List (Option AP) → Bool
 | [], _ => true
 | .val _ _ :: ps, _ :: hp => fO ps hp
 | .io _ _ :: ps, o :: hp => (match o with | none => true | some (.io _ _) => true | _ => false) && fO ps hp
 | .box _ _ :: ps, o :: hp => (match o with | none => true | some (.box l _) => l | some (.val _ _) => true | _ => false) && fO ps hp
 | .bB _ :: _, _ :: _ => false
 | _ :: _, [] => false
theorem tK : (ps : List AP) → (hp : List (Option AP)) → fO ps hp = true → ∀ (i : Nat) (p : AP), ps[i]? = some p → ∃ o, hp[i]? = some o ∧ match p with
   | .val _ _ => True
   | .io _ _ => o = none ∨ ∃ r d, o = some (.io r d)
   | .box _ _ => o = none ∨ (∃ a b, o = some (.val a b)) ∨ ∃ b, o = some (.box true b)
   | .bB _ => False
 | [], _, _ => by intro i p h; simp at h
 | p :: ps, [], h => by cases p <;> simp [fO] at h
 | p :: ps, o :: hp, h => by
   intro i p' hi; have eQ : fO ps hp = true := by
     cases p with
     | val _ _ => exact h
     | io _ => unfold fO at h; rw [Bool.and_eq_true] at h; exact h.2
     | bB _ => cases h
     | box _ _ => unfold fO at h; rw [Bool.and_eq_true] at h; exact h.2
   cases i with
   | succ i => exact (tK ps hp eQ i p' (by simpa using hi)).imp fun o ho => ⟨by simpa using ho.1, ho.2⟩
   | zero =>
     simp only [List.getElem?_cons_zero, Option.some.injEq] at hi; subst hi; refine ⟨o, rfl, ?_⟩
     cases p with
     | val _ _ => trivial
     | bB _ => cases h
     | io _ =>
       unfold fO at h; rw [Bool.and_eq_true] at h
       cases o with
       | none => exact .inl rfl
       | some q => cases q with
         | io r d => exact .inr ⟨r, d, rfl⟩
         | val _ _ => cases h.1
         | box _ _ => cases h.1
         | bB _ => cases h.1
     | box _ _ =>
       unfold fO at h; rw [Bool.and_eq_true] at h
       cases o with
       | none => exact .inl rfl
       | some q => cases q with
         | io r d => cases h.1
         | bB _ => cases h.1
         | val a b => exact .inr (.inl ⟨a, b, rfl⟩)
         | box l b =>
           have : l = true := h.1; subst this; exact .inr (.inr ⟨b, rfl⟩)
end Go.TM
namespace Go.TM
open Go Go.RowKit
theorem Pu {st : St} {k : Nat} {rr : RT} {dd : Md} {t : RT} {V : V} {y : ar t} {x : ar (.cons (.sl rr) t)} {u : List Lb} {r : List (Nat × Nat)} (h : BD st k (.io rr dd) t V y = some (x, u, r)) : ∃ A, aQ st k 0 1 = some A ∧ bw rr A.xs = some x.1 := by
 cases V with
 | agg _ => cases h
 | mz _ => cases h
 | one cx => cases cx with
   | ref a j g vw => cases vw with
     | full =>
       have h : (bif Nat.beq a k && (Nat.beq j 0 && Nat.beq g 1) then ((aQ st a j g).bind fun A => bif A.own && A.md.is dd then (bw rr A.xs).map fun xs => ((xs, y), [Lb.sp a j], ([] : List (Nat × Nat))) else none) else none) = some (x, u, r) := h; obtain ⟨h1, h2⟩ := aH h; rw [Bool.and_eq_true, Bool.and_eq_true] at h1; have e1 := Nat.eq_of_beq_eq_true h1.1; have e2 := Nat.eq_of_beq_eq_true h1.2.1; have e3 := Nat.eq_of_beq_eq_true h1.2.2; subst e1 e2 e3; obtain ⟨A, hA, h3⟩ := Option.bind_eq_some_iff.1 h2; obtain ⟨_, h4⟩ := aH h3; obtain ⟨xs, Q6, e⟩ := Option.map_eq_some_iff.1 h4; injection e with e _; exact ⟨A, hA, by rw [Q6, ← e]; rfl⟩
     | «from» _ => cases h
     | sub _ _ => cases h
   | _ => cases h
theorem MK {st : St} {k : Nat} {qs : List OP} {t : RT} {V : V} {y : ar t} {x : ar (lB qs t)} {u : List Lb} {r : List (Nat × Nat)} (h : BD st k (.box true qs) t V y = some (x, u, r)) : V = .one (.ptr k 1 0) ∧ ∃ cs, di st k 1 = some cs := by
 cases V with
 | agg _ => cases h
 | mz _ => cases h
 | one cx => cases cx with
   | ptr b g off =>
     have h : (bif Nat.beq off 0 && (!true || (Nat.beq b k && Nat.beq g 1)) then ((di st b g).bind fun cs => (ky st qs t cs y).map fun q => (q.1, Lb.box b :: bF q.2.1, q.2.2)) else none) = some (x, u, r) := h; obtain ⟨h1, h2⟩ := aH h; simp only [Bool.not_true, Bool.false_or] at h1; rw [Bool.and_eq_true, Bool.and_eq_true] at h1; have e1 := Nat.eq_of_beq_eq_true h1.1; have e2 := Nat.eq_of_beq_eq_true h1.2.1; have e3 := Nat.eq_of_beq_eq_true h1.2.2; subst e1 e2 e3; obtain ⟨cs, tz, _⟩ := Option.bind_eq_some_iff.1 h2; exact ⟨rfl, cs, tz⟩
   | _ => cases h
theorem vS {w0 : World} {mu : Mu} {c : Cz} {st : St} {a : Act} {w : World} (h : Rel w0 mu c st a w) : (l : List (Option AP)) → (k : Nat) → {x : ar (aE l)} → {u : List Lb} → {r : List (Nat × Nat)} → mI st k l = some (x, u, r) → ∀ (i : Nat),
   (∀ rr dd, l[i]? = some (some (.io rr dd)) → ∃ B A : gP, (bW l x)[i]? = some (some (.io B)) ∧ aQ st (k + i) 0 1 = some A ∧ B.r.width = A.r.width ∧ B.xs.length = A.xs.length) ∧
   (∀ qs, l[i]? = some (some (.box true qs)) → (∃ cs, di st (k + i) 1 = some cs) ∧ bK st (k + i) = .one (.ptr (k + i) 1 0)) ∧
   (l[i]? = some none → (bW l x)[i]? = some none) ∧ (∀ ag b, l[i]? = some (some (.val ag b)) → ∃ os, (bW l x)[i]? = some (some (.val ag os)))
 | [], k, x, u, r, he => by intro i; simp
 | none :: l, k, x, u, r, he => by
   intro i
   cases i with
   | zero => exact ⟨fun _ _ h => by simp at h, fun _ h => by simp at h, fun _ => rfl, fun _ _ h => by simp at h⟩
   | succ i =>
     have := vS h l (k + 1) he i; rw [show k + 1 + i = k + (i + 1) by omega] at this; exact this
 | some p :: l, k, x, u, r, he => by
   intro i; unfold mI at he
   cases h1 : mI st (k + 1) l with
   | none => simp [h1] at he
   | some q1 =>
     obtain ⟨y, us, rs⟩ := q1; simp only [h1] at he
     cases h2 : BD st k p (aE l) (bK st k) y with
     | none => simp [h2] at he
     | some q2 =>
       obtain ⟨x1, u1, r1⟩ := q2; simp only [h2] at he; injection he with he; injection he with e1 e2; subst e1
       cases i with
       | succ i =>
         have hh := vS h l (k + 1) h1 i; rw [show k + 1 + i = k + (i + 1) by omega] at hh; have e : (p.av (aE l) x1).2 = y := (zx h k (h.eI k) h2).1; have e2 : (bW (some p :: l) x1)[i + 1]? = (bW l y)[i]? := by
           show (bW l (p.av (aE l) x1).2)[i]? = _; rw [e]
         rw [e2]; exact hh
       | zero =>
         have e2 : (bW (some p :: l) x1)[0]? = some (some (p.av (aE l) x1).1) := rfl; rw [e2]; simp only [List.getElem?_cons_zero, Option.some.injEq, Nat.add_zero]; refine ⟨fun rr dd e => ?_, fun qs e => ?_, (fun e => by cases e), fun ag b e => ?_⟩
         · subst e; obtain ⟨A, hA, hc⟩ := Pu h2; obtain ⟨er, Oc⟩ := a7 hc; refine ⟨_, A, rfl, hA, by show rr.width = _; rw [← er], ?_⟩; show List.length (x1.1 : List (ar rr)) = _; rw [Oc]
           cases er
           rfl
         · subst e; obtain ⟨q1, q2⟩ := MK h2; exact ⟨q2, q1⟩
         · subst e; exact ⟨_, rfl⟩
end Go.TM
namespace Go.TM
open Go Go.RowKit
theorem Dl {w0 : World} {mu : Mu} {c : Cz} {st : St} {a : Act} {w : World} (h : Rel w0 mu c st a w) {ps : List AP} (hs : lJ ps mu) {hp : List (Option AP)} (qG : fO ps hp = true) {x : ar (aE hp)} (hx : Dk st hp = some x) : ∃ c', Rel w0 mu c' (nM hp x) a w := by
 obtain ⟨q, hq, JH⟩ := Option.bind_eq_some_iff.1 hx; obtain ⟨oY, Ez⟩ := aH JH; injection Ez with Ez; obtain ⟨x0, u, r⟩ := q; subst Ez; rw [Bool.and_eq_true] at oY; obtain ⟨Bz, tb, OZ, ZN, hold⟩ := vR h hp 0 hq; have Z9 := vS h hp 0 hq; have JG := oa _ Bz oY.1; have Et : ∀ p ∈ r, Lb.sp p.1 p.2 ∉ u := by
   intro p hp hm; have h1 := List.all_eq_true.1 oY.2 p hp; have h2 := List.all_eq_true.1 h1 _ hm; rw [(Lb.zo rfl).2 rfl] at h2
   cases h2
 have oT := Classical.propDecidable
 let ρ : Lb → Option Lb := fun l => match look tb l with | some y => some y | none => if l = .out then some .out else none
 have hρt : ∀ p ∈ tb, ρ p.1 = some p.2 := by
   intro p hp; have := zp tb (by rw [OZ]; exact JG) hp; show (match look tb p.1 with | some y => some y | none => _) = _; rw [this]
 have zu : ∀ {l y}, look tb l = some y → l ∈ u := by
   intro l y hl; have := wP tb hl; rw [← OZ]; exact List.mem_map.2 ⟨_, this, rfl⟩
 have hρr : ∀ p ∈ r, ρ (.sp p.1 p.2) = none := by
   intro p hp; show (match look tb (.sp p.1 p.2) with | some y => some y | none => if Lb.sp p.1 p.2 = .out then some Lb.out else none) = none
   cases hl : look tb (.sp p.1 p.2) with
   | some y => exact absurd (zu hl) (Et p hp)
   | none => simp
 have hρo : ρ .out = some .out := by
   show (match look tb Lb.out with | some y => some y | none => if Lb.out = Lb.out then some Lb.out else none) = _
   cases hl : look tb Lb.out with
   | some y => have := Bz _ (zu hl); cases this
   | none => simp
 have Az : Aq w0 mu (c.map ρ) w := by
   refine ⟨fun b l hb => ?_, fun b hb hn => ?_, h.kept, h.old⟩
   · obtain ⟨k, hk, e⟩ := Cz.map_some hb; obtain ⟨g1, g2⟩ := h.owned b k hk; refine ⟨g1, g2.imp (fun e2 => ?_) id⟩; subst e2; rw [hρo] at e
     cases e; rfl
   · cases hk : c.own b with
     | none => exact h.free b hb hk
     | some k =>
       have e : ρ k = none := (Cz.j4 (ρ := ρ) hk).symm.trans hn; rcases (h.owned b k hk).2 with g | g | g
       · subst g; rw [hρo] at e; cases e
       · exact absurd g (Nat.not_le_of_lt hb)
       · exact .inl g
 refine Rel.Lw Az h.plain (hold ρ hρt hρr) (fun p hpm => ?_); have RN := h.dJ p hpm; have hlen : ∀ (i : Nat) (o : Option AP), hp[i]? = some o → i < (bW hp x0).length := fun i o ho => by rw [pU]; exact (List.getElem?_eq_some_iff.1 ho).1
 rcases hs p hpm with ⟨i, rr, W, n, l, rfl, dd, UC⟩ | ⟨i, nB, b, qs, rfl, UC⟩ | ⟨i, j, W, n, l, qs, rfl, UC⟩
 · obtain ⟨o, ho, ho2⟩ := tK ps hp qG i _ UC; refine ⟨rfl, hlen i o ho, fun av HZ => .inl ?_⟩; rcases ho2 with rfl | ⟨r2, d2, rfl⟩
   · rw [(Z9 i).2.2.1 ho] at HZ; cases HZ
   · obtain ⟨B, A, e1, e2, e3, e4⟩ := (Z9 i).1 r2 d2 ho; rw [e1] at HZ; simp only [Option.some.injEq] at HZ; rw [Nat.zero_add] at e2; obtain ⟨f1, f2, f3⟩ := RN.2 A e2; exact ⟨B, HZ.symm, fun _ => ⟨e3.trans f1, e4.trans f2, f3⟩⟩
 · obtain ⟨o, ho, ho2⟩ := tK ps hp qG i _ UC; refine ⟨rfl, hlen i o ho, fun os sq => ?_⟩; rcases ho2 with rfl | ⟨a1, b1, rfl⟩ | ⟨b1, rfl⟩
   · rw [(Z9 i).2.2.1 ho] at sq; cases sq
   · obtain ⟨zn, e⟩ := (Z9 i).2.2.2 a1 b1 ho; rw [e] at sq; cases sq
   · obtain ⟨⟨cs, tz⟩, hv⟩ := (Z9 i).2.1 b1 ho; rw [Nat.zero_add] at tz hv; have sN := h.eI i; rw [hv] at sN; rw [sN.2.2 cs tz, RN.2 cs tz]
 · obtain ⟨o, ho, ho2⟩ := tK ps hp qG i _ UC; exact ho2.elim
def AD (id : Nat) (hp e0 e1 : List (Option AP)) : Ex → St → Option (Sum (ar (aE hp)) (Sum (ar (aE e0)) (ar (aE e1))))
 | .normal, st => (Dk st hp).map .inl
 | .exit m, st => bif Nat.beq m id then (Dk st e0).map fun y => .inr (.inl y) else none
 | .ret, st => (Dk st e1).map fun y => .inr (.inr y)
noncomputable def AE {R : Type} (hp e0 e1 : List (Option AP)) (round : ar (aE hp) → Option (Sum (ar (aE hp)) (Sum (ar (aE e0)) (ar (aE e1))))) (st : St) (k : Ex → St → Option R) : Option R :=
 (Dk st hp).bind fun x => (aA round x).bind fun z => match z with
   | .inl y => k .normal (nM e0 y)
   | .inr y => k .ret (nM e1 y)
theorem RO {R : Type} {P : Program} {T : ki} {S : ju} {D : kn} {n id : Nat} {w0 : World} {mu : Mu} {ps : List AP} {hp e0 e1 : List (Option AP)} {b : Code} {r : R} {L : mE R} {To : Nat → Array Oper → Prop}
   {L' : mE (Sum (ar (aE hp)) (Sum (ar (aE e0)) (ar (aE e1))))} {round : ar (aE hp) → Option (Sum (ar (aE hp)) (Sum (ar (aE e0)) (ar (aE e1))))}
   (EA : rS P T S w0 mu n) (hD : qo (Sum (ar (aE hp)) (Sum (ar (aE e0)) (ar (aE e1)))) P T S D w0 mu n To) (hs : lJ ps mu) (hf : (fO ps hp && (fO ps e0 && fO ps e1)) = true) (vd : eR n b = true) (Z6 : dK To b)
   (Cd : ∀ z, dw (lW P w0 mu n L' z) b) (J0 : ∀ x, dI T S D L' b (nM hp x) (AD id hp e0 e1) = round x) (hL : ∀ st k, L id b st k = AE hp e0 e1 round st k) : lW P w0 mu n L r id b := by
 intro k Q hk c st a w h hn hv; rw [Bool.and_eq_true, Bool.and_eq_true] at hf; rw [hL] at hv; unfold AE at hv; obtain ⟨x, hx, hv⟩ := Option.bind_eq_some_iff.1 hv; obtain ⟨z, hz, hv⟩ := Option.bind_eq_some_iff.1 hv; obtain ⟨c1, h1⟩ := Dl h hs hf.1 hx; obtain ⟨m, hm⟩ := tJ hz; refine wp_block ?_; refine wp_loop_ghost (fun m a w => ∃ x c, Rel w0 mu c (nM hp x) a w ∧ a.tmps.size = n ∧ iter round m x = some z) m ⟨x, c1, h1, hn, hm⟩ ?_
 rintro m a w ⟨x, c, hR, hn, hi⟩
 cases m with
 | zero => cases hi
 | succ m =>
   unfold iter at hi
   cases hr : round x with
   | none => rw [hr] at hi; cases hi
   | some y =>
     rw [hr] at hi; refine zm EA hD b vd (Cd y) Z6 (fun {e} {c2} {gD} {a2} {w2} g1 g2 g3 => ?_) hR hn ((J0 x).trans hr)
     cases e with
     | normal =>
       obtain ⟨x2, q1, rfl⟩ := Option.map_eq_some_iff.1 g3; obtain ⟨c3, g4⟩ := Dl g1 hs hf.1 q1; exact ⟨m, Nat.lt_succ_self m, x2, c3, g4, g2, hi⟩
     | exit m' =>
       obtain ⟨pM, g5⟩ := aH g3; have pM := Nat.eq_of_beq_eq_true pM; subst pM; obtain ⟨x2, q1, rfl⟩ := Option.map_eq_some_iff.1 g5; injection hi with hi; subst hi; obtain ⟨c3, g4⟩ := Dl g1 hs hf.2.1 q1; show (if m' = m' then Q .normal a2 w2 else Q (.exit m') a2 w2); rw [if_pos rfl]; exact hk g4 g2 hv
     | ret =>
       obtain ⟨x2, q1, rfl⟩ := Option.map_eq_some_iff.1 g3; injection hi with hi; subst hi; obtain ⟨c3, g4⟩ := Dl g1 hs hf.2.2 q1; exact hk g4 g2 hv
end Go.TM
namespace Go.TM
open Go Go.RowKit
section
variable {P : Program} {ops : Array Oper} {Q : Exit → Act → World → Prop} {md : Region.Mode} {ds : List Nat}
def sv (md : Region.Mode) (ops : Array Oper) (i : Nat) : Nat → Nat → Bool
 | 0, _ => false
 | fuel + 1, d => match ops[d]? with
   | some o => o.after.any fun e => Region.binds md e && (e.on == i || sv md ops i fuel e.on)
   | none => false
def sw (md : Region.Mode) (ops : Array Oper) (aM : Array Bool) : Prop :=
 ∀ j oj, ops[j]? = some oj → aM.getD j false = true → ∀ e ∈ oj.after, Region.binds md e = true → aM.getD e.on false = true
theorem sw.set {aM : Array Bool} {i : Nat} (h : sw md ops aM) (hi : i ∈ Region.ready md ops aM) : sw md ops (aM.setIfInBounds i true) := by
 obtain ⟨_, oi, LB, qK⟩ := mem_ready.1 hi; intro j oj hj hl e he hb
 by_cases Q7 : i = j
 · subst Q7; have : oj = oi := Option.some.inj (hj.symm.trans LB); subst this; exact getD_set_true (qK e he hb)
 · rw [getD_set_ne false Q7] at hl; exact getD_set_true (h j oj hj hl e he hb)
theorem sw.none (md : Region.Mode) (ops : Array Oper) (n : Nat) : sw md ops (Array.replicate n false) := by
 intro j oj _ hl; simp [Array.getD_eq_getD_getElem?, Array.getElem?_replicate] at hl
 split at hl <;> simp at hl
theorem zC {aM : Array Bool} {i : Nat} (hc : sw md ops aM) : ∀ (fuel d : Nat), sv md ops i fuel d = true → aM.getD d false = true → aM.getD i false = true
 | 0, _, h, _ => by simp [sv] at h
 | fuel + 1, d, h, hl => by
   unfold sv at h
   cases ho : ops[d]? with
   | none => rw [ho] at h; simp at h
   | some o =>
     rw [ho] at h; obtain ⟨e, he, h1⟩ := Array.any_eq_true'.1 h; simp only [Bool.and_eq_true, Bool.or_eq_true, beq_iff_eq] at h1; have hle := hc d o ho hl e he h1.1; rcases h1.2 with h2 | h2
     · rw [← h2]; exact hle
     · exact zC hc fuel e.on h2 hle
theorem Ce {aM : Array Bool} {i d fuel : Nat} (hc : sw md ops aM) (hr : sv md ops i fuel d = true) (Hp : aM.getD i true = false) : d ∉ Region.ready md ops aM := by
 intro hd; obtain ⟨_, o, ho, qK⟩ := mem_ready.1 hd; have hi : aM.getD i false = true := by
   cases fuel with
   | zero => simp [sv] at hr
   | succ n =>
     unfold sv at hr; rw [ho] at hr; obtain ⟨e, he, h1⟩ := Array.any_eq_true'.1 hr; simp only [Bool.and_eq_true, Bool.or_eq_true, beq_iff_eq] at h1; have hle := qK e he h1.1; rcases h1.2 with h2 | h2
     · rw [← h2]; exact hle
     · exact zC hc n e.on h2 hle
 rcases Nat.lt_or_ge i aM.size with h' | h'
 · simp [h'] at Hp hi; rw [Hp] at hi
   cases hi
 · simp [Array.getElem?_eq_none h'] at Hp
def nN (P : Program) (md : Region.Mode) (ops : Array Oper) (Q : Exit → Act → World → Prop) (ds : List Nat) : Nat → Array Bool → Act → World → Prop
 | 0, aM, a, w => Region.ready md ops aM = [] ∧ Q .normal a w
 | fuel + 1, aM, a, w =>
   (Region.ready md ops aM = [] → Q .normal a w) ∧
   ∀ i ∈ Region.ready md ops aM, wpOp P ops Q i (fun a' w' => (i ∉ ds → iJ w w') ∧ nN P md ops Q ds fuel (aM.setIfInBounds i true) a' w') a w
theorem xy : ∀ (fuel : Nat) (aM : Array Bool) (a : Act) (w : World), nN P md ops Q ds fuel aM a w → wpAny P md ops Q fuel aM a w
 | 0, _, _, _, h => h
 | fuel + 1, _, _, _, h => ⟨h.1, fun i hi => wpOp_mono (fun a' w' h' => xy fuel _ a' w' h'.2) (h.2 i hi)⟩
theorem GH {i : Nat} {oi : Oper} {v : Value} {w0 : World} (hi : ops[i]? = some oi) (Ij : ∀ (j : Nat) (o : Oper) cs b, ops[j]? = some o → o.op ≠ .select cs b)
   (hQ : ∀ c a w, Q (.panic c) (a.put oi.dst v) w → Q (.panic c) a w) (n : Nat) :
   ∀ (fuel : Nat) (aM : Array Bool) (a : Act) (w : World),
     (∀ j oj, ops[j]? = some oj → j ≠ i → aM.getD j true = false → (∀ e ∈ oj.after, Region.binds md e = true → e.on ≠ i) → oi.apart ops oj = true) →
     sw md ops aM → (∀ d ∈ ds, aM.getD d true = false → sv md ops i n d = true) →
     i ∈ Region.ready md ops aM → YieldsIf P ops (iJ w0) oi v a → iJ w0 w →
     nN P md ops Q ds fuel (aM.setIfInBounds i true) (a.put oi.dst v) w → nN P md ops Q ds (fuel + 1) aM a w := by
 intro fuel
 induction fuel with
 | zero =>
   intro aM a w _ _ _ hr hy hS H; refine ⟨fun h => (by rw [h] at hr; cases hr), fun j hj => ?_⟩
   by_cases GI : j = i
   · subst GI; exact hy.wpOp hi hS ⟨fun _ => iJ.refl w, H⟩
   · have := ready_mono hj GI; rw [H.1] at this
     cases this
 | succ fuel ih =>
   intro aM a w CX hc hd hr hy hS H; refine ⟨fun h => (by rw [h] at hr; cases hr), fun j hj => ?_⟩
   by_cases GI : j = i
   · subst GI; exact hy.wpOp hi hS ⟨fun _ => iJ.refl w, H⟩
   · have h1 := H.2 j (ready_mono hj GI); obtain ⟨J1, oj, UX, qK⟩ := mem_ready.1 hj; have ML := (mem_ready.1 hr).1; have EC : ∀ e ∈ oj.after, Region.binds md e = true → e.on ≠ i := fun e he hb heq => by
       have h1 := qK e he hb; rw [heq] at h1; rcases Nat.lt_or_ge i aM.size with h' | h'
       · simp [h'] at ML h1; rw [ML] at h1; cases h1
       · simp [Array.getElem?_eq_none h'] at h1
     have hjd : j ∉ ds := fun hm => Ce hc (hd j hm J1) ML hj
     have h2 := wpOp_putIf UX (CX j oj UX GI J1 EC) (fun cs b => Ij i oi cs b hi) (fun cs b => Ij j oj cs b UX) hQ hy h1; have J2 : ∀ k ok, ops[k]? = some ok → k ≠ i → (aM.setIfInBounds j true).getD k true = false →
         (∀ e ∈ ok.after, Region.binds md e = true → e.on ≠ i) → oi.apart ops ok = true := fun k ok hk hki Hp UH => by
       refine CX k ok hk hki ?_ UH
       by_cases Ik : j = k
       · subst Ik; exact J1
       · rw [getD_set_ne true Ik] at Hp; exact Hp
     have JW : ∀ d ∈ ds, (aM.setIfInBounds j true).getD d true = false → sv md ops i n d = true := fun d hm Hp => by
       refine hd d hm ?_
       by_cases Ik : j = d
       · subst Ik; exact J1
       · rw [getD_set_ne true Ik] at Hp; exact Hp
     refine wpOp_mono (fun a' w' h3 => ⟨h3.2.1, ih (aM.setIfInBounds j true) a' w' J2 (hc.set hj) JW (ready_mono hr (Ne.symm GI)) h3.1 (hS.trans (h3.2.1 hjd)) ?_⟩) h2; rw [Array.setIfInBounds_comm _ _ GI]; exact h3.2.2
theorem J3 {i : Nat} {oi : Oper} {v : Value} (hi : ops[i]? = some oi) (Ij : ∀ (j : Nat) (o : Oper) cs b, ops[j]? = some o → o.op ≠ .select cs b)
   (hQ : ∀ c a w, Q (.panic c) (a.put oi.dst v) w → Q (.panic c) a w) :
   ∀ (fuel : Nat) (aM : Array Bool) (a : Act) (w : World),
     (∀ j oj, ops[j]? = some oj → j ≠ i → aM.getD j true = false → (∀ e ∈ oj.after, Region.binds md e = true → e.on ≠ i) → oi.apart ops oj = true) →
     i ∈ Region.ready md ops aM → Yields P ops oi v a →
     nN P md ops Q ds fuel (aM.setIfInBounds i true) (a.put oi.dst v) w → nN P md ops Q ds (fuel + 1) aM a w := by
 intro fuel
 induction fuel with
 | zero =>
   intro aM a w _ hr hy H; refine ⟨fun h => (by rw [h] at hr; cases hr), fun j hj => ?_⟩
   by_cases GI : j = i
   · subst GI; exact (hy.yieldsIf (S := fun _ => True)).wpOp hi trivial ⟨fun _ => iJ.refl w, H⟩
   · have := ready_mono hj GI; rw [H.1] at this
     cases this
 | succ fuel ih =>
   intro aM a w CX hr hy H; refine ⟨fun h => (by rw [h] at hr; cases hr), fun j hj => ?_⟩
   by_cases GI : j = i
   · subst GI; exact (hy.yieldsIf (S := fun _ => True)).wpOp hi trivial ⟨fun _ => iJ.refl w, H⟩
   · have h1 := H.2 j (ready_mono hj GI); obtain ⟨J1, oj, UX, qK⟩ := mem_ready.1 hj; have ML := (mem_ready.1 hr).1; have EC : ∀ e ∈ oj.after, Region.binds md e = true → e.on ≠ i := fun e he hb heq => by
       have h1 := qK e he hb; rw [heq] at h1; rcases Nat.lt_or_ge i aM.size with h' | h'
       · simp [h'] at ML h1; rw [ML] at h1; cases h1
       · simp [Array.getElem?_eq_none h'] at h1
     have h2 := wpOp_put UX (CX j oj UX GI J1 EC) (fun cs b => Ij i oi cs b hi) (fun cs b => Ij j oj cs b UX) hQ hy h1; have J2 : ∀ k ok, ops[k]? = some ok → k ≠ i → (aM.setIfInBounds j true).getD k true = false →
         (∀ e ∈ ok.after, Region.binds md e = true → e.on ≠ i) → oi.apart ops ok = true := fun k ok hk hki Hp UH => by
       refine CX k ok hk hki ?_ UH
       by_cases Ik : j = k
       · subst Ik; exact J1
       · rw [getD_set_ne true Ik] at Hp; exact Hp
     refine wpOp_mono (fun a' w' h3 => ⟨h3.2.1, ih (aM.setIfInBounds j true) a' w' J2 (ready_mono hr (Ne.symm GI)) h3.1 ?_⟩) h2; rw [Array.setIfInBounds_comm _ _ GI]; exact h3.2.2
end
end Go.TM
namespace Go.TM
open Go Go.RowKit
def xN (i : Nat) : List Nat → Bool
 | [] => false
 | x :: l => Nat.beq x i || xN i l
def Tp (ops : List Oper) (ls : List Nat) (j : Nat) : Bool :=
 match nth ops j with
 | some o => !xN j ls && o.after.toList.all fun e => !Region.binds .any e || xN e.on ls
 | none => false
def LC (ops : Array Oper) (Il : List Oper) (n : Nat) (ls : List Nat) (i : Nat) : Bool :=
 match nth Il i with
 | some oi => (List.range n).all fun j => Nat.beq j i || (xN j ls || match nth Il j with
   | some oj => (oj.after.toList.any fun e => Region.binds .any e && Nat.beq e.on i) || oi.apart ops oj
   | none => true)
 | none => false
def GJ (Il : List Oper) (n : Nat) (ls : List Nat) (i : Nat) : Bool := (List.range n).all fun j => Nat.beq j i || !Tp Il ls j
def Pl.bW : Pl → List Nat
 | .nil => []
 | .op i _ _ => [i]
 | .alt p q => p.bW ++ q.bW
def Pv (Il : List Oper) (n : Nat) (ls hs : List Nat) : Bool := (List.range n).all fun j => !Tp Il ls j || xN j hs
def kC (ops : Array Oper) (Il : List Oper) (n : Nat) (ds : List Nat) : Bool → List Nat → Pl → Bool
 | al, ls, .nil => !al && (List.range n).all fun j => !Tp Il ls j
 | al, ls, .op i kd r => Tp Il ls i && ((match kd with
     | .any => !al && LC ops Il n ls i
     | .take => !al && (LC ops Il n ls i && ds.all fun d => xN d ls || sv .any ops i n d)
     | .one => al || GJ Il n ls i
     | .last => (al || GJ Il n ls i) && xN i ds) && kC ops Il n ds false (i :: ls) r)
 | al, ls, .alt p q => (al || Pv Il n ls (p.bW ++ q.bW)) && (kC ops Il n ds true ls p && kC ops Il n ds true ls q)
def FA : Pl → List Nat
 | .nil => []
 | .op i .last l => i :: FA l
 | .op _ _ l => FA l
 | .alt p q => FA p ++ FA q
def Pl.depth : Pl → Nat
 | .nil => 0
 | .op _ _ l => l.depth + 1
 | .alt p q => Nat.max p.depth q.depth
def Dm (ops : Array Oper) (l : Pl) : Bool :=
 Region.noSelect ops && (Nat.ble l.depth ops.size && kC ops ops.toList ops.size (FA l) false [] l)
structure Q8 (n : Nat) (ls : List Nat) (aM : Array Bool) : Prop where
 size : aM.size = n
 gf : ∀ j, aM.getD j false = xN j ls
 gt : ∀ j, aM.getD j true = (xN j ls || decide (n ≤ j))
theorem Q8.push {n : Nat} {ls : List Nat} {aM : Array Bool} (h : Q8 n ls aM) {i : Nat} (hi : i < n) : Q8 n (i :: ls) (aM.setIfInBounds i true) where
 size := by simp [h.size]
 gf := fun j => by
   unfold xN
   by_cases e : i = j
   · subst e; have : Nat.beq i i = true := Nat.beq_refl i; rw [this]; simp [h.size, hi]
   · rw [getD_set_ne false e, h.gf j]; have : Nat.beq i j = false := by
       cases hq : Nat.beq i j
       · rfl
       · exact absurd (Nat.eq_of_beq_eq_true hq) e
     simp [this]
 gt := fun j => by
   unfold xN
   by_cases e : i = j
   · subst e; simp [h.size, hi]
   · rw [getD_set_ne true e, h.gt j]; have : Nat.beq i j = false := by
       cases hq : Nat.beq i j
       · rfl
       · exact absurd (Nat.eq_of_beq_eq_true hq) e
     simp [this]
theorem Q8.none (n : Nat) : Q8 n [] (Array.replicate n false) where
 size := by simp
 gf := fun j => by
   simp only [Array.getD_eq_getD_getElem?, Array.getElem?_replicate, xN]
   split <;> rfl
 gt := fun j => by
   simp only [Array.getD_eq_getD_getElem?, Array.getElem?_replicate, xN]
   split
   · rename_i h; simp; omega
   · rename_i h; simp; omega
theorem wS {ops : Array Oper} {ls : List Nat} {aM : Array Bool} (h : Q8 ops.size ls aM) (j : Nat) : Tp ops.toList ls j = true ↔ j ∈ Region.ready .any ops aM := by
 rw [mem_ready]; unfold Tp; rw [fL, Array.getElem?_toList, h.gt j]
 cases ho : ops[j]? with
 | none => simp
 | some o =>
   have bN : j < ops.size := (Array.getElem?_eq_some_iff.1 ho).1; have hn : decide (ops.size ≤ j) = false := by simp; omega
   simp only [hn, Bool.or_false, Bool.and_eq_true, Bool.not_eq_true', List.all_eq_true, Array.mem_toList_iff, Bool.or_eq_true, Option.some.injEq, exists_eq_left', h.gf]
   constructor
   · rintro ⟨h0, h1⟩
     exact ⟨h0, fun e he hb => (h1 e he).resolve_left (by simp [hb])⟩
   · rintro ⟨h0, h1⟩
     refine ⟨h0, fun e he => ?_⟩
     cases hb : Region.binds .any e
     · exact .inl rfl
     · exact .inr (h1 e he hb)
theorem MM {i j : Nat} (h : i ≠ j) : Nat.beq i j = false := by
 cases hq : Nat.beq i j
 · rfl
 · exact absurd (Nat.eq_of_beq_eq_true hq) h
theorem Dn {ops : Array Oper} {ls : List Nat} {aM : Array Bool} (h : Q8 ops.size ls aM) {i : Nat} {oi : Oper} (hi : ops[i]? = some oi) (hf : LC ops ops.toList ops.size ls i = true) :
   ∀ j oj, ops[j]? = some oj → j ≠ i → aM.getD j true = false → (∀ e ∈ oj.after, Region.binds .any e = true → e.on ≠ i) → oi.apart ops oj = true := by
 intro j oj hj GI Hp UH; unfold LC at hf; rw [fL, Array.getElem?_toList, hi] at hf; have bN : j < ops.size := (Array.getElem?_eq_some_iff.1 hj).1; have h1 := List.all_eq_true.1 hf j (List.mem_range.2 bN); rw [fL, Array.getElem?_toList, hj, MM GI, Bool.false_or] at h1; rw [h.gt j, Bool.or_eq_false_iff] at Hp; rw [Hp.1, Bool.false_or, Bool.or_eq_true] at h1; rcases h1 with h1 | h1
 · obtain ⟨e, he, h2⟩ := List.any_eq_true.1 h1; rw [Bool.and_eq_true] at h2; exact absurd (Nat.eq_of_beq_eq_true h2.2) (UH e (Array.mem_toList_iff.1 he) h2.1)
 · exact h1
theorem Im {ops : Array Oper} {ls : List Nat} {aM : Array Bool} (h : Q8 ops.size ls aM) {i : Nat} (hf : GJ ops.toList ops.size ls i = true) : ∀ j ∈ Region.ready .any ops aM, j = i := by
 intro j hj; have bN : j < ops.size := by
   obtain ⟨_, o, ho, _⟩ := mem_ready.1 hj; exact (Array.getElem?_eq_some_iff.1 ho).1
 have h1 := List.all_eq_true.1 hf j (List.mem_range.2 bN); rw [(wS h j).2 hj, Bool.not_true, Bool.or_false] at h1; exact Nat.eq_of_beq_eq_true h1
theorem zD {P : Program} {T : ki} {S : ju} {w0 : World} {mu : Mu} {c : Cz} {st aP : St} {a : Act} {w : World} {ops : Array Oper} {o : Oper} {C : World → Prop} (h : Rel w0 mu c st a w)
   (hd : ∀ k, o.dst = some k → k < a.tmps.size) (hv : (vu T S ops.toList st o).val = some aP)
   (base : (Jk T S st o).val = some aP → ∃ v, (∀ w' : World, C w' → (execOp a.eval o).run P w' = .ok (.value v) w') ∧ Rel w0 mu c aP (a.put o.dst v) w) :
   ∃ v, YieldsIf P ops C o v a ∧ Rel w0 mu c aP (a.put o.dst v) w := by
 unfold vu at hv; unfold YieldsIf Region.wanted
 cases hg : o.guard with
 | none =>
   simp only [hg] at hv ⊢; obtain ⟨v, h1, h2⟩ := base hv; exact ⟨v, .inl ⟨trivial, h1⟩, h2⟩
 | some p =>
   obtain ⟨j, want⟩ := p; simp only [hg] at hv ⊢
   cases hj : (nth ops.toList j).bind (·.dst) with
   | none => simp [hj, N.val] at hv
   | some d =>
     simp only [hj] at hv
     split at hv
     · rename_i b OQ; obtain ⟨h1, h2⟩ := wL h OQ; rw [CZ (ops := ops) hj h1 h2]; have yes : (Jk T S (TM.aS st (some d) (.one (.bool b))) o).val = some aP → ∃ v, (∀ w' : World, C w' → (execOp a.eval o).run P w' = .ok (.value v) w') ∧ Rel w0 mu c aP (a.put o.dst v) w := fun e => base (by rwa [wM st d OQ] at e)
       have no : (N.done (TM.aS (TM.aS st (some d) (.one (.bool b))) o.dst (.mz []))).val = some aP → Rel w0 mu c aP (a.put o.dst undef) w := by
         intro e; simp only [N.val, Option.some.injEq] at e; subst e; rw [wM st d OQ]; exact h.aS (wN _ _ _) hd
       rcases vE hv with ⟨hb, yR⟩ | ⟨hb, yR⟩
       · subst hb
         cases want
         · exact ⟨undef, .inr ⟨rfl, rfl⟩, no yR⟩
         · obtain ⟨v, h3, h4⟩ := yes yR; exact ⟨v, .inl ⟨rfl, h3⟩, h4⟩
       · subst hb
         cases want
         · obtain ⟨v, h3, h4⟩ := yes yR; exact ⟨v, .inl ⟨rfl, h3⟩, h4⟩
         · exact ⟨undef, .inr ⟨rfl, rfl⟩, no yR⟩
     · rename_i OQ; simp only [N.val, Option.some.injEq] at hv; subst hv; rw [xv (ops := ops) hj (C0 h OQ)]; exact ⟨undef, .inr ⟨by cases want <;> rfl, rfl⟩, h.aS (wN _ _ _) hd⟩
     · simp [N.val] at hv
theorem RQ {P : Program} {T : ki} (hT : fI P T) {S : ju} {w0 : World} {mu : Mu} {c : Cz} {st : St} {a : Act} {w : World} (h : Rel w0 mu c st a w) {o : Oper} (hk : kindOk S st o .take = true)
   {aP : St} (hv : (Jk T S st o).val = some aP) (hd : ∀ k, o.dst = some k → k < a.tmps.size) : ∃ v, (∀ w' : World, iJ w w' → (execOp a.eval o).run P w' = .ok (.value v) w') ∧ Rel w0 mu c aP (a.put o.dst v) w := by
 unfold kindOk at hk; unfold Jk at hv
 cases ho : o.op with
 | load t x =>
   simp only [ho] at hv; obtain ⟨v, h1, h2⟩ := Hw hT h (bh h x) hv hd; exact ⟨v, fun w' hw => by simp only [execOp, ho]; exact qI (h1 w' hw), h2⟩
 | _ => simp [ho] at hk
theorem zE {i : Nat} : (l : List Nat) → xN i l = true → i ∈ l
 | [], h => by cases h
 | x :: l, h => by
   unfold xN at h; rw [Bool.or_eq_true] at h; rcases h with h | h
   · rw [Nat.eq_of_beq_eq_true h]; exact List.mem_cons_self
   · exact List.mem_cons_of_mem _ (zE l h)
theorem vT {R : Type} {P : Program} {T : ki} (hT : fI P T) (hE : u9 P T) {S : ju} {w0 : World} {mu : Mu} {n : Nat} (EA : rS P T S w0 mu n) {ops : Array Oper} {ds : List Nat} {Q : Exit → Act → World → Prop} (hQ : ∀ c a w, ¬ Q (.panic c) a w)
   {k : St → Option R} {r : R} (hk : Next w0 mu n r k (Q .normal)) (RR : Region.noSelect ops = true) (vd : xI n ops.toList = true) :
   (l : Pl) → (ls : List Nat) → (aM : Array Bool) → (fuel : Nat) → {c : Cz} → {st : St} → {a : Act} → {w : World} → Q8 ops.size ls aM → sw .any ops aM → l.depth ≤ fuel →
     Rel w0 mu c st a w → a.tmps.size = n → oW T S ops.toList l st k = some r →
     (kC ops ops.toList ops.size ds false ls l = true → nN P .any ops Q ds fuel aM a w) ∧
     (kC ops ops.toList ops.size ds true ls l = true → ∃ Io, fuel = Io + 1 ∧ ∀ i ∈ l.bW, i ∈ Region.ready .any ops aM ∧ wpOp P ops Q i (fun a' w' => (i ∉ ds → iJ w w') ∧ nN P .any ops Q ds Io (aM.setIfInBounds i true) a' w') a w)
 | .nil, ls, aM, fuel, c, st, a, w, hl, _, _, h, hn, hv => by
   refine ⟨fun hb => ?_, fun hb => by simp [kC] at hb⟩; unfold kC at hb; rw [Bool.and_eq_true] at hb; have hr : Region.ready .any ops aM = [] := by
     refine List.eq_nil_iff_forall_not_mem.2 fun j hj => ?_
     obtain ⟨_, o, ho, _⟩ := mem_ready.1 hj; have bN : j < ops.size := (Array.getElem?_eq_some_iff.1 ho).1; have h1 := List.all_eq_true.1 hb.2 j (List.mem_range.2 bN); rw [(wS hl j).2 hj] at h1
     cases h1
   have hq := hk h hn hv
   cases fuel with
   | zero => exact ⟨hr, hq⟩
   | succ fuel => exact ⟨fun _ => hq, fun i hi => by rw [hr] at hi; cases hi⟩
 | .op i kd l, ls, aM, 0, c, st, a, w, hl, _, hf, h, hn, hv => absurd hf (by simp [Pl.depth])
 | .op i kd l, ls, aM, fuel + 1, c, st, a, w, hl, hs, hf, h, hn, hv => by
   have hf : l.depth ≤ fuel := Nat.le_of_succ_le_succ hf; have first : ∀ al, kC ops ops.toList ops.size ds al ls (.op i kd l) = true → Tp ops.toList ls i = true ∧ kC ops ops.toList ops.size ds false (i :: ls) l = true := by
     intro al hb; unfold kC at hb; rw [Bool.and_eq_true, Bool.and_eq_true] at hb; exact ⟨hb.1, hb.2.2⟩
   have step : Tp ops.toList ls i = true → kC ops ops.toList ops.size ds false (i :: ls) l = true → (kd = .one ∨ i ∈ ds) → wpOp P ops Q i (fun a' w' => (i ∉ ds → iJ w w') ∧ nN P .any ops Q ds fuel (aM.setIfInBounds i true) a' w') a w := by
     intro UY eQ hds; have Tq := (wS hl i).1 UY; obtain ⟨_, o, LB, _⟩ := mem_ready.1 Tq; have bN : i < ops.size := (Array.getElem?_eq_some_iff.1 LB).1; unfold oW at hv; rw [fL, Array.getElem?_toList, LB] at hv; obtain ⟨Q9, hv⟩ := aH hv; rw [N.fold_eq] at hv; obtain ⟨aP, h1, h2⟩ := Option.bind_eq_some_iff.1 hv; have JW : ∀ k, o.dst = some k → k < a.tmps.size := fun k hk => by rw [hn]; exact Ap vd (by rw [Array.mem_toList_iff]; exact Array.mem_of_getElem? LB) k hk
     have next : ∀ {c' : Cz} {a' : Act} {w' : World}, Rel w0 mu c' aP a' w' → a'.tmps.size = n → nN P .any ops Q ds fuel (aM.setIfInBounds i true) a' w' := fun hr Ml =>
       (vT hT hE EA hQ hk RR vd l (i :: ls) _ fuel (hl.push bN) (hs.set Tq) hf hr Ml h2).1 eQ
     have hko : kd = .one → kindOk S st o .one = true := fun e => by rw [e] at Q9; exact Q9
     unfold wpOp; rw [LB]; rcases HP EA h hn (fun k hk => by rw [← hn]; exact JW k hk) h1 with ⟨hw, qn⟩ | ⟨hw, vM⟩
     · simp only [hw, if_true]; refine .inl (Oper.wp_mono (fun a' w' ⟨⟨c', hr, kO⟩, RF⟩ => ⟨fun JG => ?_, next hr (kO.trans hn)⟩) (qn Q)); rcases hds with e | e
       · exact RF (hko e)
       · exact absurd e JG
     · simp only [hw, Bool.false_eq_true, if_false]; exact ⟨fun _ => iJ.refl w, next vM ((qH _ _ _).trans hn)⟩
   refine ⟨fun hb => ?_, fun hb => ⟨fuel, rfl, fun j hj => ?_⟩⟩
   · obtain ⟨UY, eQ⟩ := first _ hb; have Tq := (wS hl i).1 UY; unfold kC at hb; rw [Bool.and_eq_true, Bool.and_eq_true] at hb; obtain ⟨_, LF, _⟩ := hb; have alone : GJ ops.toList ops.size ls i = true → (kd = .one ∨ i ∈ ds) → nN P .any ops Q ds (fuel + 1) aM a w := by
       intro hal hds; refine ⟨fun e => absurd Tq (by rw [e]; exact List.not_mem_nil), fun j hj => ?_⟩; have := Im hl hal j hj; subst this; exact step UY eQ hds
     obtain ⟨_, o, LB, _⟩ := mem_ready.1 Tq; have bN : i < ops.size := (Array.getElem?_eq_some_iff.1 LB).1; unfold oW at hv; rw [fL, Array.getElem?_toList, LB] at hv; obtain ⟨Q9, hv⟩ := aH hv; rw [N.fold_eq] at hv; obtain ⟨aP, h1, h2⟩ := Option.bind_eq_some_iff.1 hv; have JW : ∀ k, o.dst = some k → k < a.tmps.size := fun k hk => by rw [hn]; exact Ap vd (by rw [Array.mem_toList_iff]; exact Array.mem_of_getElem? LB) k hk
     have next : ∀ {c' : Cz} {a' : Act} {w' : World}, Rel w0 mu c' aP a' w' → a'.tmps.size = n → nN P .any ops Q ds fuel (aM.setIfInBounds i true) a' w' := fun hr Ml =>
       (vT hT hE EA hQ hk RR vd l (i :: ls) _ fuel (hl.push bN) (hs.set Tq) hf hr Ml h2).1 eQ
     have Ij := Region.noSelect_spec RR
     cases kd with
     | one => exact alone (by simpa using LF) (.inl rfl)
     | last =>
       simp only [Bool.false_or, Bool.and_eq_true] at LF; exact alone LF.1 (.inr (zE ds LF.2))
     | any =>
       simp only [Bool.not_false, Bool.true_and] at LF; obtain ⟨v, hy, vM⟩ := zD (P := P) (ops := ops) (C := fun _ => True) h JW h1 (fun e => by
         obtain ⟨v, g1, g2⟩ := Ln hT hE h Q9 e JW; exact ⟨v, fun w' _ => g1 w', g2⟩)
       refine J3 LB Ij (fun c a w hq => absurd hq (hQ _ _ _)) fuel aM a w (Dn hl LB LF) Tq ?_ (next vM ((qH _ _ _).trans hn)); rcases hy with ⟨g1, g2⟩ | g
       · exact .inl ⟨g1, fun w' => g2 w' trivial⟩
       · exact .inr g
     | take =>
       simp only [Bool.not_false, Bool.true_and, Bool.and_eq_true] at LF; obtain ⟨v, hy, vM⟩ := zD (P := P) (ops := ops) (C := iJ w) h JW h1 (fun e => RQ hT h Q9 e JW); refine GH LB Ij (fun c a w hq => absurd hq (hQ _ _ _)) ops.size fuel aM a w (Dn hl LB LF.1) hs (fun d hm Hp => ?_) Tq hy (iJ.refl w) (next vM ((qH _ _ _).trans hn)); have h3 := List.all_eq_true.1 LF.2 d hm; rw [hl.gt d, Bool.or_eq_false_iff] at Hp; rw [Hp.1, Bool.false_or] at h3; exact h3
   · have hj : j = i := by simpa [Pl.bW] using hj
     subst hj; obtain ⟨UY, eQ⟩ := first _ hb; refine ⟨(wS hl j).1 UY, step UY eQ ?_⟩; unfold kC at hb; rw [Bool.and_eq_true, Bool.and_eq_true] at hb; obtain ⟨_, LF, _⟩ := hb
     cases kd with
     | one => exact .inl rfl
     | last =>
       simp only [Bool.true_or, Bool.true_and] at LF; exact .inr (zE ds LF)
     | any => simp at LF
     | take => simp at LF
 | .alt p q, ls, aM, fuel, c, st, a, w, hl, hs, hf, h, hn, hv => by
   have hv : both (oW T S ops.toList p st k) (oW T S ops.toList q st k) = some r := hv; obtain ⟨yR, JR⟩ := Mb hv; have hf : Nat.max p.depth q.depth ≤ fuel := hf; have hp := (vT (ds := ds) hT hE EA hQ hk RR vd p ls aM fuel hl hs (Nat.le_trans (Nat.le_max_left _ _) hf) h hn yR).2; have hq := (vT (ds := ds) hT hE EA hQ hk RR vd q ls aM fuel hl hs (Nat.le_trans (Nat.le_max_right _ _) hf) h hn JR).2; have bW : kC ops ops.toList ops.size ds true ls p = true → kC ops ops.toList ops.size ds true ls q = true → ∃ Io, fuel = Io + 1 ∧ ∀ i ∈ p.bW ++ q.bW, i ∈ Region.ready .any ops aM ∧ wpOp P ops Q i (fun a' w' => (i ∉ ds → iJ w w') ∧ nN P .any ops Q ds Io (aM.setIfInBounds i true) a' w') a w := by
     intro h1 h2; obtain ⟨f1, e1, g1⟩ := hp h1; obtain ⟨f2, e2, g2⟩ := hq h2; have : f1 = f2 := by omega
     subst this; exact ⟨f1, e1, fun i hi => (List.mem_append.1 hi).elim (g1 i) (g2 i)⟩
   have parts : ∀ al, kC ops ops.toList ops.size ds al ls (.alt p q) = true → (al || Pv ops.toList ops.size ls (p.bW ++ q.bW)) = true ∧ kC ops ops.toList ops.size ds true ls p = true ∧ kC ops ops.toList ops.size ds true ls q = true := by
     intro al hb; unfold kC at hb; rw [Bool.and_eq_true, Bool.and_eq_true] at hb; exact hb
   refine ⟨fun hb => ?_, fun hb => ?_⟩
   · obtain ⟨hc, h1, h2⟩ := parts _ hb; obtain ⟨f, rfl, g⟩ := bW h1 h2; have ae6 : ∀ j ∈ Region.ready .any ops aM, j ∈ p.bW ++ q.bW := by
       intro j hj; have bN : j < ops.size := by
         obtain ⟨_, o, ho, _⟩ := mem_ready.1 hj; exact (Array.getElem?_eq_some_iff.1 ho).1
       rw [Bool.false_or] at hc; have h1 := List.all_eq_true.1 hc j (List.mem_range.2 bN); rw [(wS hl j).2 hj, Bool.not_true, Bool.false_or] at h1; exact zE _ h1
     refine ⟨fun e => ?_, fun j hj => (g j (ae6 j hj)).2⟩; have fe : ∃ i, i ∈ p.bW ++ q.bW := by
       have key : ∀ (l : Pl), kC ops ops.toList ops.size ds true ls l = true → ∃ i, i ∈ l.bW := by
         intro l
         induction l with
         | nil => intro h; simp [kC] at h
         | op i _ _ _ => intro _; exact ⟨i, by simp [Pl.bW]⟩
         | alt p q ih _ =>
           intro h; unfold kC at h; rw [Bool.and_eq_true, Bool.and_eq_true] at h; obtain ⟨i, hi⟩ := ih h.2.1; exact ⟨i, List.mem_append_left _ hi⟩
       obtain ⟨i, hi⟩ := key p h1; exact ⟨i, List.mem_append_left _ hi⟩
     obtain ⟨i, hi⟩ := fe; have := (g i hi).1; rw [e] at this
     cases this
   · obtain ⟨_, h1, h2⟩ := parts _ hb; exact bW h1 h2
theorem sS {R : Type} {P : Program} {T : ki} (hT : fI P T) (hE : u9 P T) (hm : P.follows .mixedOrders = true) {S : ju} {D : kn} {w0 : World} {mu : Mu} {n : Nat} (EA : rS P T S w0 mu n) :
   qo R P T S D w0 mu n (fun id ops => Dm ops (D id) = true) := by
 intro id ops Q k r fH vd hk c st a w h hn hv; unfold Dm at fH; rw [Bool.and_eq_true, Bool.and_eq_true] at fH; obtain ⟨RR, hlen, hb⟩ := fH
 let Q' : Exit → Act → World → Prop := fun e a w => e = .normal ∧ Q .normal a w
 have key : (Code.region id ops true).wp P Q' a w := by
   refine wp_region_any hm (xy _ _ _ _ ((vT hT hE EA (ds := FA (D id)) (Q := Q') (fun c a w hq => by cases hq.1) (fun {c st a w} g1 g2 g3 => ⟨rfl, hk g1 g2 g3⟩) RR vd (D id) [] _ ops.size (Q8.none _) (sw.none _ _ _) (Nat.le_of_ble_eq_true hlen) h.drew hn hv).1 hb))
 exact Code.wp_mono (fun e a w hq => by obtain ⟨rfl, hq⟩ := hq; exact hq) key
end Go.TM
namespace Go.TM
open Go Go.RowKit
abbrev RS : RT → Type → Type
 | .nil, R => R
 | .cons t r, R => den t → RS r R
abbrev Cf {R : Type} : (r : RT) → RS r R → ar r → R
 | .nil, f, _ => f
 | .cons _ r, f, x => Cf r (f x.1) x.2
def kg : kn := fun _ => .nil
def YT {R : Type} : mE R := fun _ _ _ _ => none
def Pw (f : Func) : Code := match f.body with | some c => c | none => .skip
def nn : Nat → List (Option AP)
 | 0 => []
 | n + 1 => none :: nn n
structure Rec where
 size : Nat
 agg : Bool
 bT : List (Nat × Nat)
 row : Option RT
 elem : Option (RT × Nat)
 kind : Option Ty
 kj : List Nat
 eq : Bool
 dp : Bool := false
 cap : Bool := false
inductive Tr where
 | leaf
 | node (l : Tr) (k : Nat) (v : Rec) (r : Tr)
def Tr.flat : Tr → Tr
 | .leaf => .leaf
 | .node l k v r => .node l.flat k { v with dp := false } r.flat
def Tr.nest : Tr → Tr
 | .leaf => .leaf
 | .node l k v r => .node l.nest k { v with dp := v.dp && (match v.elem with | some (q, _) => Nat.beq q.width 1 | none => false) } r.nest
def Tr.vt (l : List Nat) : Tr → Tr
 | .leaf => .leaf
 | .node a k v b => .node (a.vt l) k { v with cap := l.any (Nat.beq k) } (b.vt l)
def Tr.find : Tr → Nat → Option Rec
 | .leaf, _ => none
 | .node l k v r, t => bif Nat.beq t k then some v else bif Nat.blt t k then l.find t else r.find t
def Tr.all (p : Nat → Rec → Bool) : Tr → Bool
 | .leaf => true
 | .node l k v r => l.all p && (p k v && r.all p)
theorem Tr.zF {p : Nat → Rec → Bool} : (tr : Tr) → tr.all p = true → ∀ {t v}, tr.find t = some v → p t v = true
 | .leaf, _, _, _, h => by cases h
 | .node l k v r, h, t, u, hf => by
   unfold Tr.all at h; rw [Bool.and_eq_true, Bool.and_eq_true] at h; unfold Tr.find at hf
   cases hb : Nat.beq t k with
   | true =>
     rw [hb] at hf; injection hf with hf; subst hf; rw [Nat.eq_of_beq_eq_true hb]; exact h.2.1
   | false =>
     rw [hb] at hf
     cases hl : Nat.blt t k with
     | true => rw [hl] at hf; exact Tr.zF l h.1 hf
     | false => rw [hl] at hf; exact Tr.zF r h.2.2 hf
def j5 (tr : Tr) : ki where
 cells t := (tr.find t).map (·.size)
 agg t := match tr.find t with | some r => r.agg | none => false
 off t f := match tr.find t with | some r => (nth r.bT f).map (·.1) | none => none
 Zl t f := match tr.find t with | some r => (nth r.bT f).map (·.2) | none => none
 row t := match tr.find t with | some r => r.row | none => none
 elem t := match tr.find t with | some r => r.elem | none => none
 mz _ := none
 kind t := match tr.find t with | some r => r.kind | none => none
 one t f := match tr.find t with | some r => r.kj.any (Nat.beq f) | none => false
 eq t := match tr.find t with | some r => r.eq | none => false
 dp t := match tr.find t with | some r => r.dp | none => false
 cap t := match tr.find t with | some r => r.cap | none => false
def mi : RT → List Value → Bool
 | .nil, [] => true
 | .cons (.int k) r, .int l n :: vs => decide (k = l) && decide (n = 0) && mi r vs
 | .cons .bool r, .bool b :: vs => !b && mi r vs
 | .cons .str r, .string s :: vs => (match s.data.toList with | [] => true | _ => false) && mi r vs
 | .cons (.sl _) r, .slice none 0 0 :: vs => mi r vs
 | _, _ => false
theorem sU : (r : RT) → (vs : List Value) → mi r vs = true → iX r vs
 | .nil, [], _ => rfl
 | .nil, _ :: _, h => by simp [mi] at h
 | .cons t r, [], h => by cases t <;> simp [mi] at h
 | .cons t r, v :: vs, h => by
   cases t with
   | int k =>
     cases v <;> try (simp [mi] at h; done)
     rename_i l n; simp only [mi, Bool.and_eq_true, decide_eq_true_eq] at h; obtain ⟨⟨rfl, rfl⟩, h⟩ := h; exact ⟨vs, rfl, sU r vs h⟩
   | bool =>
     cases v <;> try (simp [mi] at h; done)
     rename_i b; simp only [mi, Bool.and_eq_true, Bool.not_eq_true'] at h; obtain ⟨rfl, h⟩ := h; exact ⟨vs, rfl, sU r vs h⟩
   | str =>
     cases v <;> try (simp [mi] at h; done)
     rename_i s; simp only [mi, Bool.and_eq_true] at h; obtain ⟨h1, h⟩ := h; refine ⟨vs, ?_, sU r vs h⟩; obtain ⟨d⟩ := s; obtain ⟨d⟩ := d
     cases d with
     | nil => rfl
     | cons _ _ => simp at h1
   | sl q =>
     cases v <;> try (simp [mi] at h; done)
     rename_i a n m
     cases a with
     | some _ => simp [mi] at h
     | none => cases n with
       | succ _ => simp [mi] at h
       | zero => cases m with
         | succ _ => simp [mi] at h
         | zero =>
           have h : mi r vs = true := h; exact ⟨vs, rfl, sU r vs h⟩
def rU {α : Type} (o : Option α) (p : α → Bool) : Bool := match o with | some x => p x | none => false
theorem eY {α : Type} {o : Option α} {p : α → Bool} (h : rU o p = true) : ∃ x, o = some x ∧ p x = true := by
 cases o with
 | none => cases h
 | some x => exact ⟨x, rfl, h⟩
def tL (P : Program) : List Field → List (Nat × Nat) → Bool
 | [], [] => true
 | f :: fs, (o, s) :: ps => Nat.beq f.offset o && (rU (P.info? f.type) (fun i => Nat.beq i.size s) && (Nat.blt 0 s && tL P fs ps))
 | _, _ => false
theorem xO {P : Program} : (fs : List Field) → (ps : List (Nat × Nat)) → tL P fs ps = true →
   fs.mapM (fun f => (P.info? f.type).map fun i => (f.offset, i.size)) = some ps ∧ ∀ (k : Nat) p, ps[k]? = some p → ∃ rG n, fs[k]? = some rG ∧ rG.offset = p.1 ∧ (P.info? rG.type).map (·.size) = some (n + 1)
 | [], [], _ => ⟨rfl, fun k p h => by simp at h⟩
 | [], _ :: _, h => by simp [tL] at h
 | _ :: _, [], h => by simp [tL] at h
 | f :: fs, (o, s) :: ps, h => by
   unfold tL at h; rw [Bool.and_eq_true, Bool.and_eq_true, Bool.and_eq_true] at h; obtain ⟨h1, h2, h3, h4⟩ := h; obtain ⟨i, hi, his⟩ := eY h2; have h1 := Nat.eq_of_beq_eq_true h1; have his := Nat.eq_of_beq_eq_true his; obtain ⟨g1, g2⟩ := xO fs ps h4; refine ⟨by simp [List.mapM_cons, hi, g1, h1, his], fun k p hp => ?_⟩
   cases k with
   | zero =>
     simp at hp; subst hp; have h3 : 0 < s := Nat.le_of_ble_eq_true h3; exact ⟨f, s - 1, rfl, h1, by rw [hi]; simp [his]; omega⟩
   | succ k => exact g2 k p (by simpa using hp)
def Ip (P : Program) (t : Nat) : Ty → Bool
 | .int k => rU (P.underlying t) fun | .int l => decide (k = l) | _ => false
 | .bool => rU (P.underlying t) fun | .bool => true | _ => false
 | .str => rU (P.underlying t) fun | .string => true | _ => false
 | .sl _ => false
def GK (P : Program) (t : Nat) (r : Rec) : Bool :=
 rU (P.info? t) (fun i => Nat.beq i.size r.size && (match r.row with | some q => rU i.zero (fun z => mi q z.cells.toList) | none => true)) &&
 (rU (P.underlying t) (fun d => (d.isRow == r.agg) && (bif r.agg then true else Nat.beq r.size 1) && (match d with | .struct fs => bif r.agg then tL P fs.toList r.bT else Nat.beq r.bT.length 0 | _ => !r.agg && Nat.beq r.bT.length 0)
     && (match r.elem with | some (q, b) => (match d with | .slice e => rU (P.info? e) (fun i => Nat.beq i.size q.width && (Nat.blt 0 q.width && (Nat.beq i.bytes b && (Nat.blt 0 b && rU i.zero (fun z => mi q z.cells.toList))))) | _ => false) | none => true)) &&
 ((match r.kind with | some k => Ip P t k | none => true) && (match r.elem with | some (.cons (.int .u8) .nil, _) => rU (P.underlying t) (fun d => match d with | .slice e => Ip P e (.int .u8) | _ => false) | _ => true)))
def Ts (P : Program) (t : Nat) (l : List Nat) : Bool := l.all fun f => rU (P.underlying t) fun d => match d with | .struct fs => rU fs[f]? (fun rG => rU (P.underlying rG.type) fun e => !e.isRow) | _ => false
def uX (P : Program) (t : Nat) (r : Rec) : Bool := GK P t r && Ts P t r.kj
theorem jW {P : Program} {tr : Tr} (h : tr.all (uX P) = true) : fI P (j5 tr) := by
 have aac : ∀ {t r}, tr.find t = some r → uX P t r = true := fun hf => Tr.zF tr h hf
 have get : ∀ {t r}, tr.find t = some r → GK P t r = true := fun hf => (Bool.and_eq_true _ _ ▸ aac hf).1
 have base : ∀ {t r}, tr.find t = some r → (∃ i, P.info? t = some i ∧ i.size = r.size ∧ ∀ q, r.row = some q → ∃ z, i.zero = some z ∧ iX q z.cells.toList) ∧
     (∃ d, P.underlying t = some d ∧ d.isRow = r.agg ∧ (r.agg = false → r.size = 1) ∧ (r.bT ≠ [] ∨ r.agg = true → ∃ fs, d = .struct fs ∧ tL P fs.toList r.bT = true) ∧
       ∀ q b, r.elem = some (q, b) → ∃ e i z, d = .slice e ∧ P.info? e = some i ∧ i.size = q.width ∧ 0 < q.width ∧ i.bytes = b ∧ 0 < b ∧ i.zero = some z ∧ iX q z.cells.toList) ∧
     ∀ k, r.kind = some k → Ip P t k = true := by
   intro t r hf; have h1 := get hf; unfold GK at h1; rw [Bool.and_eq_true, Bool.and_eq_true, Bool.and_eq_true] at h1; obtain ⟨h1, h2, h3, _⟩ := h1; obtain ⟨i, hi, h4⟩ := eY h1; rw [Bool.and_eq_true] at h4; obtain ⟨d, hd, h5⟩ := eY h2; rw [Bool.and_eq_true, Bool.and_eq_true, Bool.and_eq_true] at h5; obtain ⟨⟨⟨g1, g2⟩, g3⟩, g4⟩ := h5; refine ⟨⟨i, hi, Nat.eq_of_beq_eq_true h4.1, fun q hq => ?_⟩, ⟨d, hd, by simpa using g1, fun Lx => ?_, fun fe => ?_, fun q b he => ?_⟩, fun k hk => ?_⟩
   · have h6 := h4.2; rw [hq] at h6; obtain ⟨z, hz, h7⟩ := eY h6; exact ⟨z, hz, sU q _ h7⟩
   · rw [Lx] at g2; exact Nat.eq_of_beq_eq_true g2
   · cases Lx : r.agg with
     | true =>
       rw [Lx] at g3
       cases d with
       | struct fs => exact ⟨fs, rfl, g3⟩
       | _ => simp at g3
     | false =>
       rw [Lx] at g3; rcases fe with fe | fe
       · have : Nat.beq r.bT.length 0 = true := by
           cases d with
           | struct fs => exact g3
           | _ => simpa using g3
         exact absurd (List.length_eq_zero_iff.1 (Nat.eq_of_beq_eq_true this)) fe
       · rw [Lx] at fe; cases fe
   · rw [he] at g4
     cases d with
     | slice e =>
       obtain ⟨i, h6, h7⟩ := eY g4; rw [Bool.and_eq_true, Bool.and_eq_true, Bool.and_eq_true, Bool.and_eq_true] at h7; obtain ⟨k1, k2, k3, k4, k5⟩ := h7; obtain ⟨z, hz, h8⟩ := eY k5; exact ⟨e, i, z, rfl, h6, Nat.eq_of_beq_eq_true k1, Nat.le_of_ble_eq_true k2, Nat.eq_of_beq_eq_true k3, Nat.le_of_ble_eq_true k4, hz, sU q _ h8⟩
     | _ => cases g4
   · rw [hk] at h3; exact h3
 have look : ∀ {α : Type} {t : Nat} {g : Rec → Option α} {x : α}, (match tr.find t with | some r => g r | none => none) = some x → ∃ r, tr.find t = some r ∧ g r = some x := by
   intro α t g x hx
   cases hf : tr.find t with
   | none => rw [hf] at hx; cases hx
   | some r => rw [hf] at hx; exact ⟨r, rfl, hx⟩
 have aad : ∀ {t : Nat} {g : Rec → Bool}, (match tr.find t with | some r => g r | none => false) = true → ∃ r, tr.find t = some r ∧ g r = true := by
   intro t g hx
   cases hf : tr.find t with
   | none => rw [hf] at hx; cases hx
   | some r => rw [hf] at hx; exact ⟨r, rfl, hx⟩
 exact {
   cells := fun t n ht => by
     obtain ⟨r, hf, rfl⟩ := Option.map_eq_some_iff.1 ht; obtain ⟨⟨i, hi, hs, _⟩, _⟩ := base hf; rw [hi]; simp [hs]
   agg := fun t n ht => by
     obtain ⟨r, hf, rfl⟩ := Option.map_eq_some_iff.1 ht; obtain ⟨_, ⟨d, hd, h1, h2, _⟩, _⟩ := base hf; have e : (j5 tr).agg t = r.agg := by show (match tr.find t with | some r => r.agg | none => false) = _; rw [hf]
     exact ⟨d, hd, h1.trans e.symm, fun h => h2 (e ▸ h)⟩
   off := fun t f k ht => by
     obtain ⟨r, hf, hk⟩ := look ht; obtain ⟨p, hp, rfl⟩ := Option.map_eq_some_iff.1 hk; obtain ⟨_, ⟨d, hd, _, _, h3, _⟩, _⟩ := base hf; rw [fL] at hp; obtain ⟨fs, rfl, hfs⟩ := h3 (.inl (by intro e; rw [e] at hp; simp at hp)); obtain ⟨rG, n, g1, g2, g3⟩ := (xO fs.toList r.bT hfs).2 f p hp; exact ⟨fs, rG, n, hd, by simpa using g1, g2, g3⟩
   bld := fun t ht => by
     obtain ⟨r, hf, Lx⟩ := aad (g := fun r => r.agg) ht; obtain ⟨_, ⟨d, hd, _, _, h3, _⟩, _⟩ := base hf; obtain ⟨fs, rfl, hfs⟩ := h3 (.inr Lx); refine ⟨fs, r.bT, hd, (xO fs.toList r.bT hfs).1, fun f o s ho hs => ?_⟩; have ho : (match tr.find t with | some r => (nth r.bT f).map (·.1) | none => none) = some o := ho; have hs : (match tr.find t with | some r => (nth r.bT f).map (·.2) | none => none) = some s := hs; rw [hf] at ho hs; obtain ⟨p, hp, rfl⟩ := Option.map_eq_some_iff.1 ho; obtain ⟨p', ku, rfl⟩ := Option.map_eq_some_iff.1 hs; rw [hp] at ku; injection ku with e; subst e; rw [fL] at hp; exact hp
   row := fun t q ht => by
     obtain ⟨r, hf, hk⟩ := look (g := fun r => r.row) ht; obtain ⟨⟨i, hi, _, h1⟩, _⟩ := base hf; obtain ⟨z, hz, Jm⟩ := h1 q hk; exact ⟨i, z, hi, hz, Jm⟩
   elem := fun t q b ht => by
     obtain ⟨r, hf, hk⟩ := look (g := fun r => r.elem) ht; obtain ⟨_, ⟨d, hd, _, _, _, h4⟩, _⟩ := base hf; obtain ⟨e, i, z, rfl, h5⟩ := h4 q b hk; exact ⟨e, i, z, hd, h5⟩
   u8 := fun t e b ht hu => by
     obtain ⟨r, hf, hk⟩ := look (g := fun r => r.elem) ht; have h1 := get hf; unfold GK at h1; rw [Bool.and_eq_true, Bool.and_eq_true, Bool.and_eq_true] at h1; have h2 := h1.2.2.2; rw [hk] at h2; obtain ⟨d, hd, h3⟩ := eY h2; rw [hu] at hd; injection hd with hd; subst hd; obtain ⟨d2, hd2, h4⟩ := eY h3; rw [hd2]
     cases d2 <;> simp at h4
     rw [← h4]
   one := fun t f ht => by
     have ht : (match tr.find t with | some r => r.kj.any (Nat.beq f) | none => false) = true := ht
     cases hf : tr.find t with
     | none => rw [hf] at ht; cases ht
     | some r =>
       rw [hf] at ht; have h2 : Ts P t r.kj = true := (Bool.and_eq_true _ _ ▸ aac hf).2; obtain ⟨g, hg, hb⟩ := List.any_eq_true.1 ht; have hb := Nat.eq_of_beq_eq_true hb; subst hb; have h3 := List.all_eq_true.1 h2 f hg; obtain ⟨d, hd, h4⟩ := eY h3
       cases d with
       | struct fs =>
         obtain ⟨rG, ae8, h5⟩ := eY h4; obtain ⟨e, he, h6⟩ := eY h5; exact ⟨fs, rG, e, hd, ae8, he, by simpa using h6⟩
       | _ => cases h4
   kind := fun t y ht => by
     obtain ⟨r, hf, hk⟩ := look (g := fun r => r.kind) ht; have h1 := (base hf).2.2 y hk
     cases y with
     | int k =>
       obtain ⟨d, hd, h2⟩ := eY h1; refine ⟨d, hd, ?_⟩
       cases d <;> simp at h2
       rw [h2]; rfl
     | bool =>
       obtain ⟨d, hd, h2⟩ := eY h1; refine ⟨d, hd, ?_⟩
       cases d <;> simp at h2
       rfl
     | str =>
       obtain ⟨d, hd, h2⟩ := eY h1; refine ⟨d, hd, ?_⟩
       cases d <;> simp at h2
       rfl
     | sl _ => cases h1 }
end Go.TM
