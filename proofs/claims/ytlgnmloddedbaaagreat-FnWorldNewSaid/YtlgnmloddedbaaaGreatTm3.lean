/- A machine over trees: an evaluator of the code, and that what it finds is so; part 3. -/
import Derived.Test.YtlgnmloddedbaaaGreatTm2
import Derived.Laws.Sem
import Derived.Deep.LoopGhost
import Derived.OrdersHeld
import Derived.KernelRfl
set_option linter.unusedSimpArgs false
set_option linter.unusedVariables false
namespace Go.TM
open Go Go.RowKit
theorem expL_lent {st : St} {own : Bool} : (cs : List CV) → {os : List OV} → {u : List (Option Lb)} → {r : List (Nat × Nat)} → expL st own cs = some (os, u, r) → ∀ l ∈ somes u, l ∈ cs.filterMap fun x => match x with | .ref a j _ _ => some (Lb.sp a j) | _ => none
 | [], _, _, _, h => by
   simp only [expL, Option.some.injEq, Prod.mk.injEq] at h; obtain ⟨_, rfl, _⟩ := h; simp [somes]
 | x :: cs, os, u, r, h => by
   unfold expL at h
   cases hc : expC st own x with
   | none => simp [hc] at h
   | some p =>
     obtain ⟨o, u1, r1⟩ := p
     cases hq : expL st own cs with
     | none => simp [hc, hq] at h
     | some q =>
       obtain ⟨os', us, rs⟩ := q; simp only [hc, hq, Option.some.injEq, Prod.mk.injEq] at h; obtain ⟨_, rfl, _⟩ := h; intro l hl; rw [mem_somes] at hl; rcases List.mem_cons.1 hl with hl | hl
       · refine List.mem_filterMap.2 ⟨x, List.mem_cons_self, ?_⟩
         cases x with
         | ref a j g w =>
           unfold expC at hc; simp only at hc
           cases hA : arr? st a j g with
           | none => simp [hA] at hc
           | some A =>
             simp only [hA] at hc
             cases hm : A.md.hol with
             | true => simp [hm] at hc
             | false =>
             simp only [hm, cond_false] at hc
             cases hb : (own && A.own && (A.md.is .sh || w.isFull)) <;> simp only [hb, cond_true, cond_false, Option.some.injEq, Prod.mk.injEq] at hc <;> obtain ⟨_, rfl, _⟩ := hc
             · cases hl
             · exact hl.symm
         | dref a j g e i k q ys =>
           unfold expC at hc; simp only at hc
           cases hA : arr? st a j g with
           | none => simp [hA] at hc
           | some A =>
             simp only [hA] at hc; obtain ⟨_, hc⟩ := bif_some hc; simp only [Option.some.injEq, Prod.mk.injEq] at hc; obtain ⟨_, rfl, _⟩ := hc
             cases hl
         | rpt q y off => obtain ⟨_, rfl, _⟩ := expC_rpt hc; cases hl
         | rptl q y off => obtain ⟨_, rfl, _⟩ := expC_rptl hc; cases hl
         | _ =>
           simp only [expC, Option.some.injEq, Prod.mk.injEq, reduceCtorEq] at hc
           all_goals (obtain ⟨_, rfl, _⟩ := hc; cases hl)
       · have := expL_lent cs hq l (mem_somes.2 hl); obtain ⟨y, h1, h2⟩ := List.mem_filterMap.1 this; exact List.mem_filterMap.2 ⟨y, List.mem_cons_of_mem _ h1, h2⟩
theorem expArg_lab {st : St} {m : Pm} {v : V} {av : AV} {u q : List Lb} {r : List (Nat × Nat)} (h : expArg st m v = some (av, u, q, r)) : ∀ l ∈ u, (l ∈ q ∧ ∃ s j, l = .sp s j) ∨ l ∈ exLb m v := by
 have single : ∀ own cs, (match expL st own cs with | some (os, u, r) => some (AV.val false os, somes u, somes u, r) | none => none) = some (av, u, q, r) → ∀ l ∈ u, (l ∈ q ∧ ∃ s j, l = .sp s j) ∨ l ∈ exLb m v := by
   intro own cs h
   cases hq : expL st own cs with
   | none => simp [hq] at h
   | some p =>
     obtain ⟨os, us, rs⟩ := p; simp only [hq, Option.some.injEq, Prod.mk.injEq] at h; obtain ⟨_, rfl, rfl, _⟩ := h; exact fun l hl => .inl ⟨hl, expL_sp cs hq l hl⟩
 cases v with
 | tup _ => simp [expArg] at h
 | agg cs =>
   have other : (match expL st m.isOwn cs with | some (os, u, r) => some (AV.val true os, somes u, somes u, r) | none => none) = some (av, u, q, r) → ∀ l ∈ u, (l ∈ q ∧ ∃ s j, l = .sp s j) ∨ l ∈ exLb m (.agg cs) := by
     intro h
     cases hq : expL st m.isOwn cs with
     | none => simp [hq] at h
     | some p =>
       obtain ⟨os, us, rs⟩ := p; simp only [hq, Option.some.injEq, Prod.mk.injEq] at h; obtain ⟨_, rfl, rfl, _⟩ := h; exact fun l hl => .inl ⟨hl, expL_sp cs hq l hl⟩
   unfold expArg at h
   cases m with
   | shr => exact other h
   | own => exact other h
   | pick _ => exact other h
   | io => exact other h
   | lend =>
     simp only at h
     cases hq : expL st true cs with
     | none => simp [hq] at h
     | some p =>
       obtain ⟨os, us, rs⟩ := p; simp only [hq] at h; obtain ⟨_, h1⟩ := bif_some h; simp only [Option.some.injEq, Prod.mk.injEq] at h1; obtain ⟨_, rfl, _, _⟩ := h1; exact fun l hl => .inr (expL_lent cs hq l hl)
 | one cx =>
   cases cx with
   | ptr b g off =>
     unfold expArg at h; simp only at h
     cases hb : box? st b g with
     | none => simp [hb] at h
     | some cs =>
       simp only [hb] at h
       cases hq : expL st true cs with
       | none => simp [hq] at h
       | some p =>
         obtain ⟨os, us, rs⟩ := p; simp only [hq] at h; obtain ⟨_, h1⟩ := bif_some h; simp only [Option.some.injEq, Prod.mk.injEq] at h1; obtain ⟨_, rfl, rfl, _⟩ := h1; intro l hl; rcases List.mem_cons.1 hl with rfl | hl
         · exact .inr (by simp [exLb])
         · exact .inl ⟨hl, expL_sp cs hq l hl⟩
   | ref s j g vw =>
     unfold expArg at h
     cases m with
     | shr => exact single _ _ h
     | own => exact single _ _ h
     | pick _ => exact single _ _ h
     | lend => exact single _ _ h
     | io =>
       cases vw with
       | full =>
         cases hA : arr? st s j g with
         | none => simp [hA] at h
         | some A =>
           simp only [hA] at h; obtain ⟨_, h1⟩ := bif_some h; simp only [Option.some.injEq, Prod.mk.injEq] at h1; obtain ⟨_, rfl, _, _⟩ := h1; exact fun l hl => .inr (by simpa [exLb] using hl)
       | «from» _ => simp at h
       | sub _ _ => simp at h
   | _ =>
     unfold expArg at h; simp only at h
     split at h
     · rename_i os us rs hq; simp only [Option.some.injEq, Prod.mk.injEq] at h; obtain ⟨_, rfl, rfl, _⟩ := h; exact fun l hl => .inl ⟨hl, expL_sp _ hq l hl⟩
     · cases h
theorem expAll_lab {st : St} : (ms : List (Pm × V)) → {avs : List AV} → {u q : List Lb} → {r : List (Nat × Nat)} → expAll st ms = some (avs, u, q, r) → ∀ l ∈ u, (l ∈ q ∧ ∃ s j, l = .sp s j) ∨ ∃ m ∈ ms, l ∈ exLb m.1 m.2
 | [], _, _, _, _, h => by
   simp only [expAll, Option.some.injEq, Prod.mk.injEq] at h; obtain ⟨_, rfl, _⟩ := h; simp
 | (m, v) :: ms, avs, u, q, r, h => by
   unfold expAll at h
   cases h1 : expArg st m v with
   | none => simp [h1] at h
   | some p1 =>
     obtain ⟨av, u1, q1, r1⟩ := p1
     cases h2 : expAll st ms with
     | none => simp [h1, h2] at h
     | some p2 =>
       obtain ⟨avs', u2, q2, r2⟩ := p2; simp only [h1, h2, Option.some.injEq, Prod.mk.injEq] at h; obtain ⟨rfl, rfl, rfl, rfl⟩ := h; intro l hl; rcases List.mem_append.1 hl with hl | hl
       · rcases expArg_lab h1 l hl with ⟨h3, h4⟩ | h3
         · exact .inl ⟨List.mem_append_left _ h3, h4⟩
         · exact .inr ⟨(m, v), List.mem_cons_self, h3⟩
       · rcases expAll_lab ms h2 l hl with ⟨h3, h4⟩ | ⟨m', h3, h4⟩
         · exact .inl ⟨List.mem_append_right _ h3, h4⟩
         · exact .inr ⟨m', List.mem_cons_of_mem _ h3, h4⟩
theorem expAll_each {st : St} : (ms : List (Pm × V)) → {avs : List AV} → {u q : List Lb} → {r : List (Nat × Nat)} → expAll st ms = some (avs, u, q, r) → ∀ (k : Nat) (m : Pm × V) (av : AV), ms[k]? = some m → avs[k]? = some av → ExpOk st m av
 | [], _, _, _, _, _ => by intro k m av hm; simp at hm
 | (m, v) :: ms, avs, u, q, r, h => by
   unfold expAll at h
   cases h1 : expArg st m v with
   | none => simp [h1] at h
   | some p1 =>
     obtain ⟨av, u1, q1, r1⟩ := p1
     cases h2 : expAll st ms with
     | none => simp [h1, h2] at h
     | some p2 =>
       obtain ⟨avs', u2, q2, r2⟩ := p2; simp only [h1, h2, Option.some.injEq, Prod.mk.injEq] at h; obtain ⟨rfl, rfl, rfl, rfl⟩ := h; intro k m' av' hm hav
       cases k with
       | zero => simp at hm hav; subst hm hav; exact ⟨u1, q1, r1, h1⟩
       | succ k => exact expAll_each ms h2 k m' av' (by simpa using hm) (by simpa using hav)
theorem modes_snd (a b c : Pm) (l : List V) : (modes a b c l).map (·.2) = l := by
 rcases l with _ | ⟨x, _ | ⟨y, _ | ⟨z, l⟩⟩⟩ <;> simp [modes, Function.comp_def]
theorem Cz.drop_keep' : (m : List (Nat × Nat)) → (c : Cz) → {b : Nat} → {l : Lb} → c.own b = some l → (∀ p ∈ m, l ≠ .sp p.1 p.2) → (c.drop m).own b = some l
 | [], _, _, _, h, _ => h
 | (s, j) :: m, c, b, l, h, hm => Cz.drop_keep' m (c.drop1 s j) (Cz.drop1_keep h (hm (s, j) List.mem_cons_self)) (fun p hp => hm p (List.mem_cons_of_mem _ hp))
def SemsOk (P : Program) (S : Sems) : Prop :=
 ∀ f a b c sem, S f = some (a, b, c, sem) → FnOk P f sem ∧ ∃ fn, P.funcs[f]? = some fn ∧ (fn.name == "runtime.NumGoroutine") = false ∧ fn.body.isNone = false
theorem callB_ok {P : Program} {w0 : World} {mu : Mu} {c : Cz} {st st' : St} {a : Act} {w : World} (h : Rel w0 mu c st a w) {o : Oper} {f : FuncId} {vals : Array Value} (hrun : (execOp a.eval o).run P w = .ok (.enter f vals) w)
   {sem : Sem1} (hfn : FnOk P f sem) {ms : List (Pm × V)}
   (hlen : ms.length = vals.toList.length) (hrel : ∀ (k : Nat) (m : Pm × V) (x : Value), ms[k]? = some m → vals.toList[k]? = some x → RelV c st w m.2 x)
   {fin : St → N} (hv : (callB st o.dst sem ms fin).val = some st') (hd : ∀ k, o.dst = some k → k < a.tmps.size) {kp : Bool} (hkp : kp = true → quietB st ms = true)
   (hfin : ∀ (c5 : Cz) (st2 : St) (a2 : Act) (w' : World), Rel w0 mu c5 st2 a2 w' → Fw c st w c5 st2 w' →
     (∀ avs u q r, expAll st ms = some (avs, u, q, r) → ∀ b l, l.real = true → l ∉ u → (∀ p ∈ r, l ≠ .sp p.1 p.2) → c.own b = some l → w'.heap[b]? = w.heap[b]? ∧ c5.own b = some l) →
     (fin st2).val = some st' → ∃ c6, Rel w0 mu c6 st' a2 w') : StepK P w0 mu st' o a w kp := by
   unfold callB at hv; unfold quietB at hkp
   cases he : expAll st ms with
   | none => simp [he, N.val] at hv
   | some p =>
     obtain ⟨avs, u, q, r⟩ := p; simp only [he] at hv hkp; obtain ⟨hc, hv⟩ := bifN_some hv; rw [Bool.and_eq_true] at hc
     cases hs : sem avs with
     | none => simp [hs, N.val] at hv
     | some p =>
       simp only [hs] at hv
       cases hox : p.o with
       | none => rw [hox] at hv; cases hv
       | some x =>
       rw [hox] at hv; have hv2 := hv; clear hv; unfold N.val at hv2; simp only at hv2; generalize hres : p.res x = res at hv2
       cases hbk : backAll (killAll (bump (bif res.plain then st else freeze st r)) q) ms res.exts with
       | none => simp [hbk, N.val] at hv2
       | some st1 =>
         simp only [hbk] at hv2
         cases hly : layRes st1 o.dst res.outs with
         | none => simp [hly, N.val] at hv2
         | some st2 =>
           simp only [hly] at hv2; have hv2 : (fin st2).val = some st' := hv2; obtain ⟨hreal, hqu, tb, htb1, htb2, havs, hold⟩ := expAll_ok h ms 0 _ hlen hrel he; have hnd := noTwice_nodup u hreal hc.1; have hap : ∀ p ∈ r, Lb.sp p.1 p.2 ∉ u := by
             intro p hp hm; have h1 := List.all_eq_true.1 hc.2 p hp; have h2 := List.all_eq_true.1 h1 _ hm; rw [(Lb.same_iff rfl).2 rfl] at h2
             cases h2
           let lc : Nat → Nat → Loc := fun k => match ms[k]? with | some m => locOf c m.2 | none => fun _ => .nil
           have hcl := Classical.propDecidable
           let ρ : Lb → Option Lb := fun l => match look tb l with | some y => some y | none => if (∃ p ∈ r, l = .sp p.1 p.2) then none else some .out
           have hlook : ∀ {l y}, look tb l = some y → l ∈ u ∧ y.handed = true := by
             intro l y hl; have := look_some tb hl; exact ⟨by rw [← htb1]; exact List.mem_map.2 ⟨_, this, rfl⟩, htb2 _ this⟩
           have hρr : ∀ p ∈ r, ρ (.sp p.1 p.2) = none := by
             intro p hp; show (match look tb (.sp p.1 p.2) with | some y => some y | none => if (∃ p' ∈ r, Lb.sp p.1 p.2 = .sp p'.1 p'.2) then none else some .out) = none
             cases hl : look tb (.sp p.1 p.2) with
             | some y => exact absurd (hlook hl).1 (hap p hp)
             | none => simp only; rw [if_pos ⟨p, hp, rfl⟩]
           have hρt : ∀ p ∈ tb, ρ p.1 = some p.2 := by
             intro p hp; have := look_mem tb (by rw [htb1]; exact hnd) hp; show (match look tb p.1 with | some y => some y | none => _) = _; rw [this]
           have hρh : ∀ {l y}, ρ l = some y → y = .out ∨ (y.handed = true ∧ l ∈ u) := by
             intro l y hl; have hl : (match look tb l with | some y => some y | none => if (∃ p ∈ r, l = .sp p.1 p.2) then none else some .out) = some y := hl
             cases hk : look tb l with
             | some z =>
               rw [hk] at hl
               cases hl
               exact .inr ⟨(hlook hk).2, (hlook hk).1⟩
             | none =>
               rw [hk] at hl; simp only at hl
               split at hl
               · cases hl
               · cases hl; exact .inl rfl
           have hρn : ∀ {l}, ρ l = none → ∃ p ∈ r, l = .sp p.1 p.2 := by
             intro l hl; have hl : (match look tb l with | some y => some y | none => if (∃ p ∈ r, l = .sp p.1 p.2) then none else some .out) = none := hl
             cases hk : look tb l with
             | some z => rw [hk] at hl; cases hl
             | none =>
               rw [hk] at hl; simp only at hl
               split at hl
               · assumption
               · cases hl
           let μ : Mu := { m := fun b => ∃ l, (c.map ρ).own b = some l ∧ l.handed = true, ok := fun b => (c.map ρ).own b = none, an := [] }
           have hH : Handed (c.map ρ) w μ := {
             m := fun b => Iff.rfl
             ok := fun b => Iff.rfl
             lt := fun b l hb => by
               obtain ⟨k, hk, _⟩ := Cz.map_some hb; exact (h.owned b k hk).1
             lb := fun b l hb => by
               obtain ⟨k, hk, e⟩ := Cz.map_some hb; exact (hρh e).imp id (·.1) }
           have hA := hold ρ lc (fun k m hm => by simp only [Nat.zero_add, lc, hm]) hρt hρr; have hcall := hfn (c.map ρ) w μ lc avs vals p x hH hA hs hox; rw [hres] at hcall; intro Q; unfold Oper.wp; rw [hrun, Oper.upon_enter]; refine hcall.mono fun e w' hpost => ?_
           obtain ⟨v, rfl, c1, hbas, hV, hX⟩ := hpost; obtain ⟨c2, s2, hs2, hR2, hF2, hm2, hok2, hfr2⟩ : ∃ (c2 : Cz) (s2 : St), (bif res.plain then st else freeze st r) = s2 ∧ Rel w0 mu c2 s2 a w ∧ Fw c st w c2 s2 w ∧ (∀ b, μ.m b → ∃ l, c2.own b = some l ∧ l ∈ u) ∧ (res.plain = true ∨ ∀ b, μ.ok b → c2.own b = none) ∧
               (∀ b l, (∀ p ∈ r, l ≠ .sp p.1 p.2) → c.own b = some l → c2.own b = some l) := by
             have hm : ∀ b, μ.m b → ∃ l, c.own b = some l ∧ l ∈ u := by
               rintro b ⟨l, hl, hh⟩
               obtain ⟨k, hk, e⟩ := Cz.map_some hl; rcases hρh e with e2 | e2
               · subst e2; cases hh
               · exact ⟨k, hk, e2.2⟩
             cases hp : res.plain with
             | true => exact ⟨c, st, rfl, h, Fw.refl c st w, hm, .inl rfl, fun _ _ _ h => h⟩
             | false =>
               refine ⟨c.drop r, freeze st r, rfl, Rel.freeze r h, Fw.freeze w r c st, fun b hb => ?_, .inr fun b hb => ?_, fun b l hl hb => Cz.drop_keep' r c hb hl⟩
               · obtain ⟨l, h1, h2⟩ := hm b hb; exact ⟨l, Cz.drop_keep' r c h1 (fun p hp e => hap p hp (e ▸ h2)), h2⟩
               · have hb : (c.own b).bind ρ = none := hb
                 cases hk : c.own b with
                 | none => exact Cz.drop_ok r c b hk
                 | some l =>
                   rw [hk] at hb; obtain ⟨p, hp, e⟩ := hρn hb; subst e; exact Cz.drop_sp r c b hk hp
           rw [hs2] at hbk; obtain ⟨g1, g2, gfr, g3, g4⟩ := hR2.moved hbas (X := fun l => l ∈ u) hm2 (fun l hl e => by subst e; cases hreal _ hl); have hok' : (∀ b, c1.ok b → (c2.merge c1 w.heap.size μ.m).ok b) ∨ res.plain = true := by
             rcases hok2 with h1 | h1
             · exact .inr h1
             · exact .inl (g4 h1)
           have hplain : res.plain = true → res.outs.all (fun o => o.ovs.all OV.plain) = true ∧ res.exts.all XV.plain = true := by
             intro hp; unfold Res.plain at hp
             rwa [Bool.and_eq_true] at hp
           have hV' : HoldV (c2.merge c1 w.heap.size μ.m) w' res.outs v := hV.pass (fun b j => g3 b (.pres j) rfl) (hok'.imp id fun hp => (hplain hp).1); have hX' : HoldX (c2.merge c1 w.heap.size μ.m) w' lc 0 avs vals.toList res.exts := HoldX.pass avs 0 (fun b k _ => g3 b (.pbox k) rfl) (fun b k j _ => g3 b (.pend k j) rfl) _ _ (hok'.imp id fun hp => (hplain hp).2) hX; obtain ⟨c3, k1, k2, k3⟩ := killAll_ok q g1; have hok3 : ∀ b, (c2.merge c1 w.heap.size μ.m).ok b → c3.ok b := fun b hb => by unfold Cz.ok at *; rw [k3]; exact hb
           have hV3 : HoldV c3 w' res.outs v := hV'.pass (fun b j hb => by rw [k3]; exact hb) (.inl hok3); have hX3 : HoldX c3 w' lc 0 avs vals.toList res.exts := HoldX.pass avs 0 (fun b k _ hb => by rw [k3]; exact hb) (fun b k j _ hb => by rw [k3]; exact hb) _ _ (.inl hok3) hX'; obtain ⟨c4, l1, l2, l3⟩ := backAll_ok ms 0 avs _ _ k1 ((hF2.trans g2).trans k2) hrel (expAll_each ms he) havs.symm hlen (fun k m hm => by simp only [Nat.zero_add, lc, hm]) hX3 hbk; have hV4 : HoldV c4 w' res.outs v := hV3.pass (fun b j => l3.pend b (.pres j) (.inl ⟨j, rfl⟩)) (.inl l3.ok); obtain ⟨c5, n1, n2, n3⟩ := l1.laid hV4 hly hd; have hrel5 : Rel w0 mu c5 st2 (a.put o.dst v) w' := by
             refine (n1.mono (X' := fun _ => False) (fun l hl => ?_)).rel; obtain ⟨⟨hl1, hl2⟩, hl3⟩ := hl; rcases expAll_lab ms he l hl1 with ⟨h1, s, j, e⟩ | ⟨m, h1, h2⟩
             · subst e; exact hl2 s j h1 rfl
             · exact hl3 m h1 h2
           obtain ⟨c6, hc6⟩ := hfin c5 st2 _ w' hrel5 (l2.trans n2) (fun avs' u' q' r' he' b l hl1 hl2 hl3 hb => by
             rw [he] at he'; simp only [Option.some.injEq, Prod.mk.injEq] at he'; obtain ⟨rfl, rfl, rfl, rfl⟩ := he'; have hb2 := hfr2 b l hl3 hb; obtain ⟨f1, f2⟩ := gfr b l hb2 hl2; refine ⟨f1, n3 b l hl1 (l3.pend b l (.inr hl1) ?_)⟩; rw [k3, f2]; exact hb2) hv2
           refine ⟨⟨c6, hc6, put_size _ _ _⟩, fun hkp' => ⟨hbas.kept.2.2.2, fun k hk => hbas.old k hk (fun hmu => ?_)⟩⟩; have hu0 : u = [] := by simpa using hkp hkp'
           obtain ⟨_, _, hin⟩ := hm2 k hmu; rw [hu0] at hin
           cases hin
end Go.TM
namespace Go.TM
open Go Go.RowKit
def LiveL (st : St) (n : Nat × Nat) : Prop := ∃ g A, arr? st n.1 n.2 g = some A ∧ A.md.hol = false
theorem expC_live {st : St} {own : Bool} {x : CV} {o : OV} {u : Option Lb} {r : List (Nat × Nat)} (h : expC st own x = some (o, u, r)) : (∀ s j, u = some (.sp s j) → LiveL st (s, j)) ∧ ∀ p ∈ r, LiveL st p := by
 cases x with
 | ref a j g w =>
   unfold expC at h; simp only at h
   cases hA : arr? st a j g with
   | none => simp [hA] at h
   | some A =>
     simp only [hA] at h
     cases hm : A.md.hol with
     | true => simp [hm] at h
     | false =>
     have hmd := hm; simp only [hm, cond_false] at h
     cases hb : (own && A.own && (A.md.is .sh || w.isFull)) <;> simp only [hb, cond_true, cond_false, Option.some.injEq, Prod.mk.injEq] at h <;> obtain ⟨_, rfl, rfl⟩ := h
     · exact ⟨by simp, fun p hp => by simp at hp; subst hp; exact ⟨g, A, hA, hmd⟩⟩
     · refine ⟨fun s k e => ?_, by simp⟩; simp only [Option.some.injEq, Lb.sp.injEq] at e; obtain ⟨rfl, rfl⟩ := e; exact ⟨g, A, hA, hmd⟩
 | dref a j g e i k q ys =>
   unfold expC at h; simp only at h
   cases hA : arr? st a j g with
   | none => simp [hA] at h
   | some A =>
     simp only [hA] at h; obtain ⟨h1, h⟩ := bif_some h; rw [Bool.and_eq_true] at h1; have hm := Md.is_iff.1 h1.1; simp only [Option.some.injEq, Prod.mk.injEq] at h; obtain ⟨_, rfl, rfl⟩ := h; exact ⟨by simp, fun p hp => by simp at hp; subst hp; exact ⟨g, A, hA, by rw [hm]; rfl⟩⟩
 | rpt q y off => obtain ⟨_, rfl, rfl⟩ := expC_rpt h; simp
 | rptl q y off => obtain ⟨_, rfl, rfl⟩ := expC_rptl h; simp
 | _ => simp [expC] at h <;> (try (obtain ⟨_, rfl, rfl⟩ := h; simp))
theorem expL_live {st : St} {own : Bool} : (cs : List CV) → {os : List OV} → {u : List (Option Lb)} → {r : List (Nat × Nat)} → expL st own cs = some (os, u, r) → (∀ s j, .sp s j ∈ somes u → LiveL st (s, j)) ∧ ∀ p ∈ r, LiveL st p
 | [], _, _, _, h => by
   simp only [expL, Option.some.injEq, Prod.mk.injEq] at h; obtain ⟨_, rfl, rfl⟩ := h; simp [somes]
 | x :: cs, os, u, r, h => by
   unfold expL at h
   cases hc : expC st own x with
   | none => simp [hc] at h
   | some p =>
     obtain ⟨o, u1, r1⟩ := p
     cases hq : expL st own cs with
     | none => simp [hc, hq] at h
     | some q =>
       obtain ⟨os', us, rs⟩ := q; simp only [hc, hq, Option.some.injEq, Prod.mk.injEq] at h; obtain ⟨_, rfl, rfl⟩ := h; obtain ⟨a1, a2⟩ := expC_live hc; obtain ⟨b1, b2⟩ := expL_live cs hq; refine ⟨fun s j hm => ?_, fun p hp => ?_⟩
       · rw [mem_somes] at hm; rcases List.mem_cons.1 hm with hm | hm
         · exact a1 s j hm.symm
         · exact b1 s j (mem_somes.2 hm)
       · rcases List.mem_append.1 hp with hp | hp
         · exact a2 p hp
         · exact b2 p hp
theorem expArg_live {st : St} {m : Pm} {v : V} {av : AV} {u q : List Lb} {r : List (Nat × Nat)} (h : expArg st m v = some (av, u, q, r)) : (∀ s j, .sp s j ∈ u → LiveL st (s, j)) ∧ ∀ p ∈ r, LiveL st p := by
 have single : ∀ own cs ag, (match expL st own cs with | some (os, u, r) => some (AV.val ag os, somes u, somes u, r) | none => none) = some (av, u, q, r) → (∀ s j, .sp s j ∈ u → LiveL st (s, j)) ∧ ∀ p ∈ r, LiveL st p := by
   intro own cs ag h
   cases hq : expL st own cs with
   | none => simp [hq] at h
   | some p =>
     obtain ⟨os, us, rs⟩ := p; simp only [hq, Option.some.injEq, Prod.mk.injEq] at h; obtain ⟨_, rfl, rfl, rfl⟩ := h; exact expL_live cs hq
 cases v with
 | tup _ => simp [expArg] at h
 | agg cs =>
   unfold expArg at h
   cases m with
   | shr => exact single _ _ _ h
   | own => exact single _ _ _ h
   | pick _ => exact single _ _ _ h
   | io => exact single _ _ _ h
   | lend =>
     simp only at h
     cases hq : expL st true cs with
     | none => simp [hq] at h
     | some p =>
       obtain ⟨os, us, rs⟩ := p; simp only [hq] at h; obtain ⟨_, h1⟩ := bif_some h; simp only [Option.some.injEq, Prod.mk.injEq] at h1; obtain ⟨_, rfl, _, rfl⟩ := h1; exact expL_live cs hq
 | one cx =>
   cases cx with
   | ptr b g off =>
     unfold expArg at h; simp only at h
     cases hb : box? st b g with
     | none => simp [hb] at h
     | some cs =>
       simp only [hb] at h
       cases hq : expL st true cs with
       | none => simp [hq] at h
       | some p =>
         obtain ⟨os, us, rs⟩ := p; simp only [hq] at h; obtain ⟨_, h1⟩ := bif_some h; simp only [Option.some.injEq, Prod.mk.injEq] at h1; obtain ⟨_, rfl, rfl, rfl⟩ := h1; obtain ⟨a1, a2⟩ := expL_live cs hq; refine ⟨fun s j hm => ?_, a2⟩; rcases List.mem_cons.1 hm with hm | hm
         · cases hm
         · exact a1 s j hm
   | ref s j g vw =>
     unfold expArg at h
     cases m with
     | shr => exact single _ _ _ h
     | own => exact single _ _ _ h
     | pick _ => exact single _ _ _ h
     | lend => exact single _ _ _ h
     | io =>
       cases vw with
       | full =>
         cases hA : arr? st s j g with
         | none => simp [hA] at h
         | some A =>
           simp only [hA] at h; obtain ⟨hb, h1⟩ := bif_some h; simp only [Option.some.injEq, Prod.mk.injEq] at h1; obtain ⟨_, rfl, _, rfl⟩ := h1; refine ⟨fun s' j' hm => ?_, by simp⟩; simp at hm; obtain ⟨rfl, rfl⟩ := hm; rw [Bool.and_eq_true] at hb; exact ⟨g, A, hA, by cases hh : A.md.hol <;> simp_all⟩
       | «from» _ => simp at h
       | sub _ _ => simp at h
   | _ =>
     unfold expArg at h; simp only at h
     split at h
     · rename_i os us rs hq; simp only [Option.some.injEq, Prod.mk.injEq] at h; obtain ⟨_, rfl, _, rfl⟩ := h; exact expL_live _ hq
     · cases h
theorem expAll_live {st : St} : (ms : List (Pm × V)) → {avs : List AV} → {u q : List Lb} → {r : List (Nat × Nat)} → expAll st ms = some (avs, u, q, r) → (∀ s j, .sp s j ∈ u → LiveL st (s, j)) ∧ ∀ p ∈ r, LiveL st p
 | [], _, _, _, _, h => by
   simp only [expAll, Option.some.injEq, Prod.mk.injEq] at h; obtain ⟨_, rfl, _, rfl⟩ := h; simp
 | (m, v) :: ms, avs, u, q, r, h => by
   unfold expAll at h
   cases h1 : expArg st m v with
   | none => simp [h1] at h
   | some p1 =>
     obtain ⟨av, u1, q1, r1⟩ := p1
     cases h2 : expAll st ms with
     | none => simp [h1, h2] at h
     | some p2 =>
       obtain ⟨avs', u2, q2, r2⟩ := p2; simp only [h1, h2, Option.some.injEq, Prod.mk.injEq] at h; obtain ⟨_, rfl, _, rfl⟩ := h; obtain ⟨a1, a2⟩ := expArg_live h1; obtain ⟨b1, b2⟩ := expAll_live ms h2; refine ⟨fun s j hm => ?_, fun p hp => ?_⟩
       · rcases List.mem_append.1 hm with hm | hm
         · exact a1 s j hm
         · exact b1 s j hm
       · rcases List.mem_append.1 hp with hp | hp
         · exact a2 p hp
         · exact b2 p hp
theorem incr_lt : {l : List Nat} → incr l = true → ∀ {a b : Nat} {x y : Nat}, l[a]? = some x → l[b]? = some y → a < b → x < y
 | [], _, a, b, x, y, h, _, _ => by simp at h
 | [z], _, a, b, x, y, h1, h2, hab => by
   have : b = 0 := by
     have := (List.getElem?_eq_some_iff.1 h2).1; simpa using this
   omega
 | z :: z' :: l, h, a, b, x, y, h1, h2, hab => by
   simp only [incr, Bool.and_eq_true] at h; have hz : z < z' := by have := h.1; simp [Nat.blt] at this; omega
   cases b with
   | zero => omega
   | succ b =>
     cases a with
     | succ a => exact incr_lt h.2 (by simpa using h1) (by simpa using h2) (by omega)
     | zero =>
       simp at h1; subst h1
       cases b with
       | zero => simp at h2; omega
       | succ b =>
         have := incr_lt (a := 0) (b := b + 1) h.2 rfl (by simpa using h2) (by omega); omega
theorem incr_one {l : List Nat} (h : incr l = true) {a b x : Nat} (h1 : l[a]? = some x) (h2 : l[b]? = some x) : a = b := by
 rcases Nat.lt_trichotomy a b with h3 | h3 | h3
 · have := incr_lt h h1 h2 h3; omega
 · exact h3
 · have := incr_lt h h2 h1 h3; omega
theorem posOf_spec {k : Nat} : (n : Nat) → (l : List Dr) → (∃ y ∈ l, y.k = k) → ∃ i y, posOf k n l = n + i ∧ l[i]? = some y ∧ y.k = k
 | n, [], h => by obtain ⟨y, hy, _⟩ := h; cases hy
 | n, x :: l, h => by
   unfold posOf
   cases hb : Nat.beq x.k k with
   | true => exact ⟨0, x, rfl, rfl, Nat.eq_of_beq_eq_true hb⟩
   | false =>
     have hne : x.k ≠ k := by intro e; rw [e, Nat.beq_refl] at hb; cases hb
     obtain ⟨y, hy, e⟩ := h; rcases List.mem_cons.1 hy with rfl | hy
     · exact absurd e hne
     · obtain ⟨i, y', h1, h2, h3⟩ := posOf_spec (n + 1) l ⟨y, hy, e⟩; exact ⟨i + 1, y', by rw [cond_false, h1]; omega, by simpa using h2, h3⟩
theorem posOf_at {l : List Dr} (hi : incr (l.map (·.k)) = true) {i : Nat} {y : Dr} (h : l[i]? = some y) : posOf y.k 0 l = i := by
 obtain ⟨i', y', h1, h2, h3⟩ := posOf_spec (k := y.k) 0 l ⟨y, List.mem_of_getElem? h, rfl⟩; rw [h1, Nat.zero_add]; exact incr_one hi (x := y.k) (by rw [List.getElem?_map, h2]; simp [h3]) (by rw [List.getElem?_map, h]; rfl)
def Dr.cv (y : Dr) : CV := .dref y.a y.j y.g y.e y.i y.k y.q y.ys
theorem mem_drefsL {y : Dr} : {cs : List CV} → y ∈ drefsL cs → y.cv ∈ cs
 | [], h => by simp [drefsL] at h
 | c :: cs, h => by
   cases c with
   | dref a j g e i k q ys =>
     rcases List.mem_cons.1 h with rfl | h
     · exact List.mem_cons_self
     · exact List.mem_cons_of_mem _ (mem_drefsL h)
   | _ => exact List.mem_cons_of_mem _ (mem_drefsL h)
theorem drefsL_mem {a j g e i k : Nat} {q : RT} {ys : List (denR q)} : {cs : List CV} → CV.dref a j g e i k q ys ∈ cs → (⟨a, j, g, e, i, k, q, ys⟩ : Dr) ∈ drefsL cs
 | [], h => by cases h
 | c :: cs, h => by
   rcases List.mem_cons.1 h with rfl | h
   · exact List.mem_cons_self
   · have := drefsL_mem (cs := cs) h
     cases c with
     | dref _ _ _ _ _ _ _ _ => exact List.mem_cons_of_mem _ this
     | _ => exact this
theorem mem_drefsM {y : Dr} : {ms : List (Pm × V)} → y ∈ drefsM ms → ∃ m ∈ ms, (m = (.io, .one y.cv)) ∨ ∃ cs, m = (.lend, .agg cs) ∧ y.cv ∈ cs
 | [], h => by simp [drefsM] at h
 | (p, v) :: ms, h => by
   have rest : y ∈ drefsM ms → ∃ m ∈ (p, v) :: ms, (m = (.io, .one y.cv)) ∨ ∃ cs, m = (.lend, .agg cs) ∧ y.cv ∈ cs := fun h => by
     obtain ⟨m, hm, e⟩ := mem_drefsM h; exact ⟨m, List.mem_cons_of_mem _ hm, e⟩
   cases p with
   | io => cases v with
     | one c =>
       rcases List.mem_append.1 h with h | h
       · have := mem_drefsL h; simp at this; exact ⟨_, List.mem_cons_self, .inl (by rw [this])⟩
       · exact rest h
     | _ => exact rest h
   | lend => cases v with
     | agg cs =>
       rcases List.mem_append.1 h with h | h
       · exact ⟨_, List.mem_cons_self, .inr ⟨cs, rfl, mem_drefsL h⟩⟩
       · exact rest h
     | _ => exact rest h
   | _ => exact rest (by cases v <;> exact h)
theorem drefsM_io {a j g e i k : Nat} {q : RT} {ys : List (denR q)} : {ms : List (Pm × V)} → (.io, .one (.dref a j g e i k q ys)) ∈ ms → (⟨a, j, g, e, i, k, q, ys⟩ : Dr) ∈ drefsM ms
 | [], h => by cases h
 | (p, v) :: ms, h => by
   rcases List.mem_cons.1 h with h | h
   · cases h
     exact List.mem_append_left _ List.mem_cons_self
   · have := drefsM_io (ms := ms) h
     cases p <;> cases v <;> first | exact this | exact List.mem_append_right _ this
theorem drefsM_lend {a j g e i k : Nat} {q : RT} {ys : List (denR q)} {cs : List CV} (hc : CV.dref a j g e i k q ys ∈ cs) : {ms : List (Pm × V)} → (.lend, .agg cs) ∈ ms → (⟨a, j, g, e, i, k, q, ys⟩ : Dr) ∈ drefsM ms
 | [], h => by cases h
 | (p, v) :: ms, h => by
   rcases List.mem_cons.1 h with h | h
   · cases h
     exact List.mem_append_left _ (drefsL_mem hc)
   · have := drefsM_lend hc (ms := ms) h
     cases p <;> cases v <;> first | exact this | exact List.mem_append_right _ this
theorem splitOf_some {st : St} {ms : List (Pm × V)} {x : Dr} {A : Arr} {l : List Dr} (h : splitOf st ms = some (x, A, l)) :
   l = drefsM ms ∧ arr? st x.a x.j x.g = some A ∧ A.own = true ∧ A.md = .dp ∧ epO st x.a = x.e ∧ (∀ y ∈ l, y.a = x.a ∧ y.j = x.j ∧ y.g = x.g ∧ y.e = x.e ∧ y.i = x.i) ∧ incr (l.map (·.k)) = true ∧ x.a ≠ st.length - 1 := by
 unfold splitOf at h
 cases hd : drefsM ms with
 | nil => rw [hd] at h; cases h
 | cons y l' =>
   rw [hd] at h; simp only at h
   cases hA : arr? st y.a y.j y.g with
   | none => rw [hA] at h; cases h
   | some B =>
     rw [hA] at h; simp only at h; obtain ⟨h1, h⟩ := bif_some h; simp only [Option.some.injEq, Prod.mk.injEq] at h; obtain ⟨rfl, rfl, rfl⟩ := h; simp only [Bool.and_eq_true] at h1; obtain ⟨⟨⟨⟨⟨h1, h2⟩, h3⟩, h4⟩, h5⟩, h6⟩ := h1; refine ⟨rfl, hA, h1, Md.is_iff.1 h2, (Nat.eq_of_beq_eq_true h3).symm, fun z hz => ?_, h5, fun e => ?_⟩
     · rcases List.mem_cons.1 hz with rfl | hz
       · exact ⟨rfl, rfl, rfl, rfl, rfl⟩
       · have := List.all_eq_true.1 h4 z hz; simp only [Bool.and_eq_true] at this; obtain ⟨⟨⟨⟨q1, q2⟩, q3⟩, q4⟩, q5⟩ := this; exact ⟨Nat.eq_of_beq_eq_true q1, Nat.eq_of_beq_eq_true q2, Nat.eq_of_beq_eq_true q3, Nat.eq_of_beq_eq_true q4, Nat.eq_of_beq_eq_true q5⟩
     · rw [← e, Nat.beq_refl] at h6
       cases h6
theorem rowSl_lt : (r : RT) → (x : denR r) → (k : Nat) → {p : (q : RT) × List (denR q)} → rowSl r x k = some p → k < r.width
 | .nil, _, _, _, h => by simp [rowSl] at h
 | .cons t r, x, 0, _, _ => by simp [RT.width]
 | .cons t r, x, k + 1, p, h => by
   have h' : rowSl r x.2 k = some p := by cases t <;> exact h
   have := rowSl_lt r x.2 k h'; simp [RT.width]; omega
noncomputable def Cz.split (c : Cz) (a j i P : Nat) (gg : Nat → List Nat) (l : List Dr) (lcP : Nat → Loc) : Cz :=
 { bx := c.bx, lc := fun s k => if s = P then lcP k else c.lc s k,
   own := fun k => have := Classical.propDecidable (c.own k = some (.sp a j) ∧ ∃ y q, y ∈ l ∧ gg k = i :: y.k :: q); if c.own k = some (.sp a j) ∧ ∃ y q, y ∈ l ∧ gg k = i :: y.k :: q then some (.sp P (posOf ((gg k).getD 1 0) 0 l)) else c.own k }
theorem Cz.split_out {c : Cz} {a j i P : Nat} {gg : Nat → List Nat} {l : List Dr} {lcP : Nat → Loc} {k : Nat} (h : ¬ (c.own k = some (.sp a j) ∧ ∃ y q, y ∈ l ∧ gg k = i :: y.k :: q)) : (c.split a j i P gg l lcP).own k = c.own k := by
 unfold Cz.split; simp only; rw [if_neg h]
theorem Cz.split_in {c : Cz} {a j i P : Nat} {gg : Nat → List Nat} {l : List Dr} {lcP : Nat → Loc} (hi : incr (l.map (·.k)) = true) {k n : Nat} {y : Dr} {q : List Nat} (h : c.own k = some (.sp a j)) (hy : l[n]? = some y) (hg : gg k = i :: y.k :: q) : (c.split a j i P gg l lcP).own k = some (.sp P n) := by
 unfold Cz.split; simp only; rw [if_pos ⟨h, y, q, List.mem_of_getElem? hy, hg⟩, hg]; have : (i :: y.k :: q).getD 1 0 = y.k := rfl; rw [this, posOf_at hi hy]
theorem Cz.split_ok {c : Cz} {a j i P : Nat} {gg : Nat → List Nat} {l : List Dr} {lcP : Nat → Loc} {k : Nat} : (c.split a j i P gg l lcP).ok k ↔ c.ok k := by
 unfold Cz.ok
 by_cases h : c.own k = some (.sp a j) ∧ ∃ y q, y ∈ l ∧ gg k = i :: y.k :: q
 · have h0 := h.1; unfold Cz.split; simp only; rw [if_pos h, h0]; simp
 · rw [Cz.split_out h]
theorem Cz.split_some {c : Cz} {a j i P : Nat} {gg : Nat → List Nat} {l : List Dr} {lcP : Nat → Loc} {k : Nat} {lb : Lb} (h : (c.split a j i P gg l lcP).own k = some lb) : c.own k = some lb ∨ (c.own k = some (.sp a j) ∧ ∃ n, lb = .sp P n) := by
 by_cases h1 : c.own k = some (.sp a j) ∧ ∃ y q, y ∈ l ∧ gg k = i :: y.k :: q
 · unfold Cz.split at h; simp only at h; rw [if_pos h1] at h; exact .inr ⟨h1.1, _, (Option.some.inj h).symm⟩
 · rw [Cz.split_out h1] at h; exact .inl h
theorem nth_splitSt {st : St} {x : Dr} {A : Arr} {l : List Dr} (hne : x.a ≠ st.length - 1) (s : Nat) : nth (splitSt st x A l) s = if s = st.length - 1 then (nth st s).map (fun z => { z with arrs := l.map (fun y => some y.arr), ag := z.ag + 1, ep := z.ep + 1 }) else
   (if s = x.a then (nth st s).map (fun z => { z with arrs := upd (fun _ => some { A with md := .ho x.i }) z.arrs x.j, ep := z.ep + 1 }) else nth st s) := by
 unfold splitSt setArr; rw [nth_upd, nth_upd]
 by_cases e : s = st.length - 1
 · rw [if_pos e, if_pos e, if_neg (show ¬ (s = x.a) from fun e' => hne (e'.symm.trans e))]
 · rw [if_neg e, if_neg e]
end Go.TM
namespace Go.TM
open Go Go.RowKit
structure Apart (c c1 : Cz) (st : St) (w : World) (x : Dr) (A : Arr) (l : List Dr) (gg : Nat → List Nat) (b o cap : Nat) : Prop where
 lc : c.lc x.a x.j = .at b o cap
 lc1 : c1.lc x.a x.j = .at b o cap
 own : c.own b = some (.sp x.a x.j)
 g0 : gg b = []
 rows : ∀ (i : Nat) z, A.xs[i]? = some z → DepR w (fun p k => c.own k = some (.sp x.a x.j) ∧ gg k = p) A.r [i] 0 b (o + i * A.r.width) z
 stay : ∀ k, c.own k = some (.sp x.a x.j) → (∀ y ∈ l, ∀ q, gg k ≠ x.i :: y.k :: q) → c1.own k = some (.sp x.a x.j)
 out : ∀ n y, l[n]? = some y → ∃ v, w.cell? ⟨b, o + x.i * A.r.width + y.k, none⟩ = some v ∧ v.oneCell' = true ∧ SlAt (c1.lc (st.length - 1) n) y.q.width 0 y.ys.length v ∧ y.k < A.r.width
 len : x.i < A.xs.length
theorem split_ok {w0 : World} {mu : Mu} {c : Cz} {st : St} {a : Act} {w : World} (h : Rel w0 mu c st a w) {ms : List (Pm × V)} {x : Dr} {A : Arr} {l : List Dr} (hs : splitOf st ms = some (x, A, l)) (hrel : ∀ m ∈ ms, ∃ v, RelV c st w m.2 v) :
   ∃ (c1 : Cz) (gg : Nat → List Nat) (b o cap : Nat), Rel w0 mu c1 (splitSt st x A l) a w ∧ Fw c st w c1 (splitSt st x A l) w ∧ Apart c c1 st w x A l gg b o cap ∧
     ∀ m ∈ ms, ∀ v, RelV c st w m.2 v → RelV c1 (splitSt st x A l) w (undV (st.length - 1) (genAg st (st.length - 1) + 1) l m).2 v := by
 obtain ⟨hl, hA, hown, hmd, hep, hall, hinc, hne⟩ := splitOf_some hs; have hval : ∀ y ∈ l, ∃ v, RelC c st w y.cv v := by
   intro y hy; rw [hl] at hy; obtain ⟨m, hm, e | ⟨cs, e, hc⟩⟩ := mem_drefsM hy
   · obtain ⟨v, hv⟩ := hrel m hm; rw [e] at hv; exact ⟨v, hv⟩
   · obtain ⟨v, hv⟩ := hrel m hm; rw [e] at hv; obtain ⟨vs, rfl, hL⟩ := hv; obtain ⟨k, hk⟩ := List.mem_iff_getElem?.1 hc; have hlt : k < vs.toList.length := by rw [← hL.1]; exact (List.getElem?_eq_some_iff.1 hk).1
     exact ⟨_, hL.2 k _ _ hk (List.getElem?_eq_getElem hlt)⟩
 have hdep : ∀ y ∈ l, ∀ v, RelC c st w y.cv v → ∃ (gg : Nat → List Nat) (b o cap : Nat), c.lc x.a x.j = .at b o cap ∧ A.md = .dp ∧ gg b = [] ∧ w.cell? ⟨b, o + x.i * A.r.width + y.k, none⟩ = some v ∧
     (∀ (i : Nat) z, A.xs[i]? = some z → DepR w (fun p k => c.own k = some (.sp x.a x.j) ∧ gg k = p) A.r [i] 0 b (o + i * A.r.width) z) ∧ (∃ z, A.xs[x.i]? = some z ∧ rowSl A.r z y.k = some ⟨y.q, y.ys⟩) := by
   intro y hy v hv; obtain ⟨e1, e2, e3, e4, e5⟩ := hall y hy; obtain ⟨ya, yj, yg, ye, yi, yk, yq, yys⟩ := y; simp only at e1 e2 e3 e4 e5; subst e1 e2 e3 e4 e5; obtain ⟨gg, b, o, cap, h1, h2, h3, h4, h5, h6, _⟩ := dref_dep hv hA hep (h.arrOf hA); exact ⟨gg, b, o, cap, h1, h2, h3, h4, h5, h6⟩
 have hA' := h.arrOf hA; obtain ⟨y0, hy0⟩ : ∃ y, y ∈ l := by
   cases hl2 : l with
   | cons y _ => exact ⟨y, List.mem_cons_self⟩
   | nil =>
     rw [hl2] at hl; unfold splitOf at hs; rw [← hl] at hs
     cases hs
 obtain ⟨v0, hv0⟩ := hval y0 hy0; obtain ⟨gg, b, o, cap, hlc, _, hg0, _, hrows, hz0⟩ := hdep y0 hy0 v0 hv0; have hdep' : ∀ y ∈ l, ∀ v, RelC c st w y.cv v → w.cell? ⟨b, o + x.i * A.r.width + y.k, none⟩ = some v ∧ (∃ z, A.xs[x.i]? = some z ∧ rowSl A.r z y.k = some ⟨y.q, y.ys⟩) := by
   intro y hy v hv; obtain ⟨_, b', o', cap', h1, _, _, h4, _, h6⟩ := hdep y hy v hv; rw [hlc] at h1; injection h1 with e1 e2 e3; subst e1 e2 e3; exact ⟨h4, h6⟩
 have hloc : ∀ n : Nat, ∃ lc : Loc, ∀ y, l[n]? = some y → ∃ v, w.cell? ⟨b, o + x.i * A.r.width + y.k, none⟩ = some v ∧ v.oneCell' = true ∧ SlAt lc y.q.width 0 y.ys.length v ∧
     ((lc = .nil ∧ y.ys = []) ∨ ∃ b' off cap', lc = .at b' off cap' ∧ (c.own b' = some (.sp x.a x.j) ∧ gg b' = [x.i, y.k]) ∧ y.ys.length ≤ cap' ∧ (∃ cur ty, w.heap[b']? = some (.cells cur ty (0, 0)) ∧ off + cap' * y.q.width ≤ cur.size) ∧
       ∀ (i : Nat) z, y.ys[i]? = some z → DepR w (fun p k => c.own k = some (.sp x.a x.j) ∧ gg k = p) y.q ([x.i, y.k] ++ [i]) 0 b' (off + i * y.q.width) z) := by
   intro n
   cases hn : l[n]? with
   | none => exact ⟨.nil, fun y hy => by cases hy⟩
   | some y =>
     have hy := List.mem_of_getElem? hn; obtain ⟨v, hv⟩ := hval y hy; obtain ⟨h4, z, hz1, hz2⟩ := hdep' y hy v hv; obtain ⟨v', q1, q2⟩ := depR_cell A.r [x.i] 0 _ z y.k (hrows x.i z hz1) hz2; rw [h4] at q1
     cases q1
     obtain ⟨lc, r1, r2, r3⟩ := (depSl _ _ _ _ _ _).1 q2; refine ⟨lc, fun y' hy' => ?_⟩
     cases hy'
     exact ⟨v, h4, r2, r1, by simpa using r3⟩
 obtain ⟨lcP, hlcP⟩ := Classical.axiomOfChoice hloc; have hb : c.own b = some (.sp x.a x.j) := by
   unfold ArrOk at hA'; rw [hlc] at hA'; have := hA'.1
   rwa [hown] at this
 let P := st.length - 1
 let c1 := c.split x.a x.j x.i P gg l lcP
 have hnth := nth_splitSt (A := A) (l := l) hne; obtain ⟨sla, ha1, ha2, ha3⟩ := arr?_some hA; have hPlt : P < st.length := by
   have := nth_lt ha1; show st.length - 1 < st.length; omega
 obtain ⟨slP, hP⟩ : ∃ s, nth st P = some s := ⟨st[P], by rw [nth_eq]; exact List.getElem?_eq_getElem hPlt⟩; have hgP : genAg st P = slP.ag := by unfold genAg; rw [hP]
 have hlcne : ∀ s k, s ≠ P → c1.lc s k = c.lc s k := fun s k e => by show (if s = P then _ else _) = _; rw [if_neg e]
 have hlcP' : ∀ k, c1.lc P k = lcP k := fun k => by show (if P = P then _ else _) = _; rw [if_pos rfl]
 have hgen : ∀ s, genA st s ≤ genA (splitSt st x A l) s ∧ genB st s = genB (splitSt st x A l) s ∧ epO st s ≤ epO (splitSt st x A l) s ∧ (s = P ∨ s = x.a → nth st s ≠ none → epO (splitSt st x A l) s ≠ epO st s) := by
   intro s; unfold genA genB epO; rw [hnth]
   by_cases e : s = st.length - 1
   · rw [if_pos e]
     cases nth st s with
     | none => simp
     | some z => refine ⟨by simp, rfl, by simp, fun _ _ => by simp⟩
   · rw [if_neg e]
     by_cases e2 : s = x.a
     · rw [if_pos e2]
       cases nth st s with
       | none => simp
       | some z => refine ⟨by simp, rfl, by simp, fun _ _ => by simp⟩
     · rw [if_neg e2]; exact ⟨Nat.le_refl _, rfl, Nat.le_refl _, fun h => absurd h (by rintro (h | h); exact e h; exact e2 h)⟩
 have hgenP : genA (splitSt st x A l) P = slP.ag + 1 := by
   unfold genA; rw [hnth, if_pos rfl, hP]; rfl
 have hfw : Fw c st w c1 (splitSt st x A l) w := {
   stays := ⟨Nat.le_refl _, fun _ _ _ => rfl, fun _ _ h => Cz.split_ok.2 h⟩
   refs := fun a' j' g' A2 hg hA2 => by
     obtain ⟨sl, k1, k2, k3⟩ := arr?_some hA2; rw [hnth] at k1
     by_cases e : a' = st.length - 1
     · rw [if_pos e] at k1; obtain ⟨z, hz, rfl⟩ := Option.map_eq_some_iff.1 k1; unfold genA at hg; rw [hz] at hg; simp only at k2 hg; omega
     · rw [if_neg e] at k1
       by_cases e2 : a' = x.a
       · rw [if_pos e2] at k1; obtain ⟨z, hz, rfl⟩ := Option.map_eq_some_iff.1 k1; have hepn := (hgen a').2.2.2 (.inr e2) (by rw [hz]; simp); simp only at k2 k3; rw [nth_upd] at k3
         by_cases e3 : j' = x.j
         · rw [if_pos e3] at k3; subst e2 e3; rw [ha1] at hz
           cases hz
           rw [ha3] at k3; simp only [Option.map_some, Option.some.injEq] at k3; subst k3; exact ⟨A, arr?_eq ha1 k2 ha3, rfl, rfl, hlcne _ _ e, fun he => absurd he hepn⟩
         · rw [if_neg e3] at k3; exact ⟨A2, arr?_eq hz k2 k3, rfl, rfl, hlcne _ _ e, fun he => absurd he hepn⟩
       · rw [if_neg e2] at k1; exact ⟨A2, arr?_eq k1 k2 k3, rfl, rfl, hlcne _ _ e, fun _ => ⟨rfl, fun _ _ _ _ => rfl⟩⟩
   bxs := fun b' g' cs' _ hb' => by
     refine ⟨⟨cs', ?_⟩, rfl⟩; unfold box? at hb' ⊢; rw [hnth] at hb'
     by_cases e : b' = st.length - 1
     · rw [if_pos e] at hb'
       cases hz : nth st b' with
       | none => rw [hz] at hb'; cases hb'
       | some z => rw [hz] at hb'; exact hb'
     · rw [if_neg e] at hb'
       by_cases e2 : b' = x.a
       · rw [if_pos e2] at hb'
         cases hz : nth st b' with
         | none => rw [hz] at hb'; cases hb'
         | some z => rw [hz] at hb'; exact hb'
       · rw [if_neg e2] at hb'; exact hb'
   gA := fun s => (hgen s).1
   gB := fun s => Nat.le_of_eq (hgen s).2.1
   gE := fun s => (hgen s).2.2.1 }
 have hgetV : ∀ t, getV (splitSt st x A l) t = getV st t := by
   intro t; unfold getV; rw [hnth]
   by_cases e : t = st.length - 1
   · rw [if_pos e]; cases nth st t <;> rfl
   · rw [if_neg e]
     by_cases e2 : t = x.a
     · rw [if_pos e2]; cases nth st t <;> rfl
     · rw [if_neg e2]
 have other : ∀ s k B, ArrOk c w s k B → ¬ (s = x.a ∧ k = x.j) → s ≠ P → ArrOk c1 w s k B := by
   intro s k B hB hn hsP; refine hB.go hfw.stays (hlcne s k hsP) (fun kb hk => ⟨rfl, Cz.split_out ?_⟩)
   rintro ⟨h1, _⟩
   rw [hk] at h1; injection h1 with h1; injection h1 with e1 e2; exact hn ⟨e1, e2⟩
 have hRel : Rel w0 mu c1 (splitSt st x A l) a w := {
   regs := fun t => by rw [hgetV]; exact hfw.relV (h.regs t)
   boxes := fun s sl cs hs hb' => by
     have : ∃ sl0, nth st s = some sl0 ∧ sl0.box = some cs := by
       rw [hnth] at hs
       by_cases e : s = st.length - 1
       · rw [if_pos e] at hs; obtain ⟨z, hz, rfl⟩ := Option.map_eq_some_iff.1 hs; exact ⟨z, hz, hb'⟩
       · rw [if_neg e] at hs
         by_cases e2 : s = x.a
         · rw [if_pos e2] at hs; obtain ⟨z, hz, rfl⟩ := Option.map_eq_some_iff.1 hs; exact ⟨z, hz, hb'⟩
         · rw [if_neg e2] at hs; exact ⟨sl, hs, hb'⟩
     obtain ⟨sl0, hs0, hb0⟩ := this; have hbx := h.boxes s sl0 cs hs0 hb0; refine hbx.go hfw rfl (Cz.split_out ?_) rfl
     rintro ⟨h1, _⟩
     rw [hbx.1] at h1
     cases h1
   arrs := fun s k sl B hs hB => by
     rw [hnth] at hs
     by_cases e : s = st.length - 1
     · rw [if_pos e] at hs; obtain ⟨z, hz, rfl⟩ := Option.map_eq_some_iff.1 hs; simp only at hB; rw [nth_eq, List.getElem?_map] at hB
       cases hy : l[k]? with
       | none => rw [hy] at hB; cases hB
       | some y =>
         rw [hy] at hB; simp only [Option.map_some, Option.some.injEq] at hB; subst hB; obtain ⟨v, r1, r2, r3, r4⟩ := hlcP k y hy; have es : s = P := e; rw [es]; unfold ArrOk; rw [hlcP']; rcases r4 with ⟨e4, e5⟩ | ⟨b', off, cap', e4, ⟨q1, q2⟩, q3, q4, q5⟩
         · rw [e4]; exact e5
         · rw [e4]; refine ⟨Cz.split_in hinc q1 hy (q := []) q2, q3, q4, ?_⟩; unfold RowsOk; show match (bif y.q.slices then Md.dp else Md.sh) with | .sh => _ | .dp => _ | .ho _ => _
           cases hsl : y.q.slices with
           | false => exact fun i z hz => DepR.plainRep _ _ _ _ _ z hsl (q5 i z hz)
           | true =>
             refine ⟨fun k => (gg k).drop 2, by show List.drop 2 (gg b') = []; rw [q2]; rfl, fun i z hz => DepR.go _ _ [i] (fun q kb hk => ⟨rfl, Cz.split_in hinc hk.1 hy (q := [i] ++ q) (by rw [hk.2]; simp), by show List.drop 2 (gg kb) = _; rw [hk.2]; simp⟩) _ _ _ z rfl (q5 i z hz)⟩
     · rw [if_neg e] at hs
       by_cases e2 : s = x.a
       · rw [if_pos e2] at hs; obtain ⟨z, hz, rfl⟩ := Option.map_eq_some_iff.1 hs; simp only at hB; rw [nth_upd] at hB
         by_cases e3 : k = x.j
         · rw [if_pos e3] at hB; subst e2 e3; rw [ha1] at hz
           cases hz
           rw [ha3] at hB; simp only [Option.map_some, Option.some.injEq] at hB; subst hB; unfold ArrOk at hA' ⊢; rw [hlcne _ _ e, hlc]; rw [hlc] at hA'; obtain ⟨h0, h2, h3, _⟩ := hA'; refine ⟨?_, h2, h3, fun _ => ⟨gg, hg0, fun i' z hq hz => DepR.go _ [i'] [i'] (fun q kb hk => ⟨rfl, (Cz.split_out (by
             rintro ⟨_, y, q', _, hg⟩
             rw [hk.2] at hg; injection hg with e' _; exact hq e')).trans hk.1, hk.2⟩) _ _ _ z rfl (hrows i' z hz)⟩⟩
           show match A.own with | true => _ | false => _
           rw [hown]; show c1.own b = _; rw [Cz.split_out]
           · exact hb
           · rintro ⟨_, y, q, _, hq⟩
             rw [hg0] at hq
             cases hq
         · rw [if_neg e3] at hB; exact other s k B (h.arrs s k z B hz hB) (fun hh => e3 hh.2) e
       · rw [if_neg e2] at hs; exact other s k B (h.arrs s k sl B hs hB) (fun hh => e2 hh.1) e
   owned := fun kb lb hk => by
     rcases Cz.split_some hk with h1 | ⟨h1, n, rfl⟩
     · exact h.owned kb lb h1
     · obtain ⟨g1, g2⟩ := h.owned kb _ h1; exact ⟨g1, .inr (g2.resolve_left (by simp))⟩
   free := fun kb hlt hk => h.free kb hlt (Cz.split_ok.1 hk)
   kept := h.kept
   old := h.old
   plain := h.plain
   anch := fun p hp => hfw.anch (h.anch p hp) }
 refine ⟨c1, gg, b, o, cap, hRel, hfw, ⟨hlc, by rw [hlcne _ _ hne]; exact hlc, hb, hg0, hrows, fun k hk hq => ?_, fun n y hn => ?_, ?_⟩, ?_⟩
 · show c1.own k = _; rw [Cz.split_out]
   · exact hk
   · rintro ⟨_, y, q, hy, hq'⟩
     exact hq y hy q hq'
 · obtain ⟨v, r1, r2, r3, _⟩ := hlcP n y hn; refine ⟨v, r1, r2, by rw [hlcP']; exact r3, ?_⟩; obtain ⟨v', hv'⟩ := hval y (List.mem_of_getElem? hn); obtain ⟨_, z, _, hz2⟩ := hdep' y (List.mem_of_getElem? hn) v' hv'; exact rowSl_lt _ _ _ hz2
 · obtain ⟨z, hz1, _⟩ := hz0; exact (List.getElem?_eq_some_iff.1 hz1).1
 · -- the values that are handed
   have cell : ∀ cv v, RelC c st w cv v → (∀ a j g e i k q ys, cv = .dref a j g e i k q ys → (⟨a, j, g, e, i, k, q, ys⟩ : Dr) ∈ l) → RelC c1 (splitSt st x A l) w (undC (st.length - 1) (genAg st (st.length - 1) + 1) l cv) v := by
     intro cv v hv hm
     cases cv with
     | dref a j g e i k q ys =>
       have hy := hm _ _ _ _ _ _ _ _ rfl; obtain ⟨n, hn⟩ := List.mem_iff_getElem?.1 hy; have hpos : posOf k 0 l = n := posOf_at hinc hn; show RelC c1 (splitSt st x A l) w (.ref P (posOf k 0 l) (genAg st P + 1) .full) v; rw [hpos]; obtain ⟨v', r1, r2, r3, _⟩ := hlcP n _ hn; have hvv := (hdep' _ hy v hv).1; rw [r1] at hvv
       cases hvv
       refine ⟨r2, by rw [hgenP, hgP]; exact Nat.le_refl _, fun B hB => ?_⟩; obtain ⟨sl, k1, k2, k3⟩ := arr?_some hB; rw [hnth, if_pos rfl] at k1; obtain ⟨z, hz, rfl⟩ := Option.map_eq_some_iff.1 k1; simp only at k3; rw [nth_eq, List.getElem?_map, hn] at k3; simp only [Option.map_some, Option.some.injEq] at k3; subst k3; rw [hlcP']; exact r3
     | _ => exact hfw.relC hv
   intro m hm v hv; obtain ⟨pm, mv⟩ := m
   cases pm with
   | io => cases mv with
     | one cv =>
       exact cell cv v hv (fun a j g e i k q ys e1 => by rw [hl]; subst e1; exact drefsM_io hm)
     | _ => exact hfw.relV hv
   | lend => cases mv with
     | agg cs =>
       obtain ⟨vs, rfl, hL⟩ := hv; refine ⟨vs, rfl, by rw [List.length_map]; exact hL.1, fun i y u hy hu => ?_⟩; rw [List.getElem?_map] at hy; obtain ⟨y0, hy0, rfl⟩ := Option.map_eq_some_iff.1 hy; exact cell y0 u (hL.2 i y0 u hy0 hu) (fun a j g e i k q ys e1 => by rw [hl]; subst e1; exact drefsM_lend (List.mem_of_getElem? hy0) hm)
     | _ => exact hfw.relV hv
   | _ => cases mv <;> exact hfw.relV hv
end Go.TM
namespace Go.TM
open Go Go.RowKit
theorem Rel.clear {w0 : World} {mu : Mu} {c : Cz} {st : St} {a : Act} {w : World} (h : Rel w0 mu c st a w) (P : Nat) : Rel w0 mu c (upd (fun s => { s with arrs := [], ep := s.ep + 1 }) st P) a w ∧ Fw c st w c (upd (fun s => { s with arrs := [], ep := s.ep + 1 }) st P) w := by
 have hn : ∀ s, nth (upd (fun s => { s with arrs := [], ep := s.ep + 1 }) st P) s = if s = P then (nth st s).map (fun z => { z with arrs := [], ep := z.ep + 1 }) else nth st s := fun s => nth_upd _ _ _ _
 generalize upd (fun s => { s with arrs := [], ep := s.ep + 1 }) st P = st' at hn ⊢; have hfw : Fw c st w c st' w := {
   stays := Stays.refl w _
   refs := fun a' j' g' A' _ hA' => by
     obtain ⟨sl, k1, k2, k3⟩ := arr?_some hA'; rw [hn] at k1
     by_cases e : a' = P
     · rw [if_pos e] at k1; obtain ⟨z, hz, rfl⟩ := Option.map_eq_some_iff.1 k1; simp [nth] at k3
     · rw [if_neg e] at k1; exact ⟨A', arr?_eq k1 k2 k3, rfl, rfl, rfl, fun _ => ⟨rfl, fun _ _ _ _ => rfl⟩⟩
   bxs := fun b' g' cs' _ hb' => by
     refine ⟨⟨cs', ?_⟩, rfl⟩; unfold box? at hb' ⊢; rw [hn] at hb'
     by_cases e : b' = P
     · rw [if_pos e] at hb'
       cases hz : nth st b' with
       | none => rw [hz] at hb'; cases hb'
       | some z => rw [hz] at hb'; exact hb'
     · rw [if_neg e] at hb'; exact hb'
   gA := fun s => by
     unfold genA; rw [hn]
     by_cases e : s = P
     · rw [if_pos e]; cases nth st s <;> simp
     · rw [if_neg e]; exact Nat.le_refl _
   gB := fun s => by
     unfold genB; rw [hn]
     by_cases e : s = P
     · rw [if_pos e]; cases nth st s <;> simp
     · rw [if_neg e]; exact Nat.le_refl _
   gE := fun s => by
     unfold epO; rw [hn]
     by_cases e : s = P
     · rw [if_pos e]; cases nth st s <;> simp
     · rw [if_neg e]; exact Nat.le_refl _ }
 refine ⟨{
   regs := fun t => by
     have : getV st' t = getV st t := by
       unfold getV; rw [hn]
       by_cases e : t = P
       · rw [if_pos e]; cases nth st t <;> rfl
       · rw [if_neg e]
     rw [this]; exact hfw.relV (h.regs t)
   boxes := fun s sl cs hs hb => by
     rw [hn] at hs
     by_cases e : s = P
     · rw [if_pos e] at hs; obtain ⟨z, hz, rfl⟩ := Option.map_eq_some_iff.1 hs; exact (h.boxes s z cs hz hb).go hfw rfl rfl rfl
     · rw [if_neg e] at hs; exact (h.boxes s sl cs hs hb).go hfw rfl rfl rfl
   arrs := fun s j sl A hs hA => by
     rw [hn] at hs
     by_cases e : s = P
     · rw [if_pos e] at hs; obtain ⟨z, hz, rfl⟩ := Option.map_eq_some_iff.1 hs; simp [nth] at hA
     · rw [if_neg e] at hs; exact h.arrs s j sl A hs hA
   owned := h.owned
   free := h.free
   kept := h.kept
   old := h.old
   plain := h.plain
   anch := fun p hp => hfw.anch (h.anch p hp) }, hfw⟩
theorem Rel.swap {w0 : World} {mu : Mu} {c : Cz} {st : St} {a : Act} {w : World} (h : Rel w0 mu c st a w) {s j g : Nat} {H B : Arr} (hH : arr? st s j g = some H) (hw : B.r.width = H.r.width) (hn : B.xs.length = H.xs.length) (hB : ArrOk c w s j B) :
   Rel w0 mu (c.turn id c.bx c.lc) (setArr st s j (some B)) a w := by
 have hfw : Fw c st w (c.turn id c.bx c.lc) (setArr st s j (some B)) w := fw_setArr (.inl hH) (fun _ e => by cases e; exact ⟨hw, hn⟩) id; have hX : RelX (fun _ => False) w0 mu c st a w := ⟨h.regs, fun s sl cs _ => h.boxes s sl cs, fun s j sl A _ => h.arrs s j sl A, h.owned, h.free, h.kept, h.old, h.plain, h.anch⟩; refine (hX.turn turns_id hfw (fun t => by rw [getV_setArr]; exact hfw.relV (h.regs t)) (fun k sl cs _ hs hb => ?_) (fun k i sl A _ hs hA => ?_)).rel
 · obtain ⟨f, hf, hk⟩ := nth_setArr st s j (some B) k; rw [hk] at hs
   cases hx : nth st k with
   | none => rw [hx] at hs; simp at hs
   | some x =>
     rw [hx] at hs; simp at hs; subst hs; rw [(hf x).2.1] at hb; exact (h.boxes k x cs hx hb).turn turns_id hfw rfl
 · obtain ⟨f, hf, hk⟩ := nth_setArr st s j (some B) k; rw [hk] at hs
   cases hx : nth st k with
   | none => rw [hx] at hs; simp at hs
   | some x =>
     rw [hx] at hs; simp at hs; subst hs; rw [(hf x).2.2.2.2.1 i] at hA
     by_cases e : k = s ∧ i = j
     · rw [if_pos e] at hA; obtain ⟨rfl, rfl⟩ := e
       cases hq : nth x.arrs i with
       | none => simp [hq] at hA
       | some A1 =>
         simp only [hq, Option.map_some, Option.some.injEq] at hA; subst hA; exact hB.turn turns_id rfl
     · rw [if_neg e] at hA; exact (h.arrs k i x A hx hA).turn turns_id rfl
def DepVsX (w : World) (P : List Nat → Nat → Prop) (K : Nat → Prop) : (r : RT) → (p : List Nat) → (k : Nat) → List Value → denR r → Prop
 | .nil, _, _, vs, _ => vs = []
 | .cons t r, p, k, vs, x => ∃ v l, vs = v :: l ∧ (¬ K k → DepTy w P t (p ++ [k]) v x.1) ∧ DepVsX w P K r p (k + 1) l x.2
theorem DepVsX.of {w w' : World} {P P' : List Nat → Nat → Prop} {K : Nat → Prop} : (r : RT) → (p : List Nat) → (hP : ∀ k q b, ¬ K k → P (p ++ [k] ++ q) b → w'.heap[b]? = w.heap[b]? ∧ P' (p ++ [k] ++ q) b) → (k : Nat) → (vs : List Value) → (x : denR r) → DepVs w P r p k vs x → DepVsX w' P' K r p k vs x
 | .nil, _, _, _, _, _, h => h
 | .cons t r, p, hP, k, vs, x, h => by
   obtain ⟨v, l, e, h1, h2⟩ := h; exact ⟨v, l, e, fun hk => DepTy.go t (p ++ [k]) (p ++ [k]) (fun q b hb => hP k q b hk hb) v x.1 h1, DepVsX.of r p hP (k + 1) l x.2 h2⟩
theorem DepVsX.full {w : World} {P : List Nat → Nat → Prop} {K : Nat → Prop} (hK : ∀ k, ¬ K k) : (r : RT) → (p : List Nat) → (k : Nat) → (vs : List Value) → (x : denR r) → DepVsX w P K r p k vs x → DepVs w P r p k vs x
 | .nil, _, _, _, _, h => h
 | .cons t r, p, k, vs, x, h => by
   obtain ⟨v, l, e, h1, h2⟩ := h; exact ⟨v, l, e, h1 (hK k), DepVsX.full hK r p (k + 1) l x.2 h2⟩
theorem DepVsX.mono {w : World} {P : List Nat → Nat → Prop} {K K' : Nat → Prop} : (r : RT) → (p : List Nat) → (k : Nat) → (hK : ∀ c, k ≤ c → K c → K' c) → (vs : List Value) → (x : denR r) → DepVsX w P K r p k vs x → DepVsX w P K' r p k vs x
 | .nil, _, _, _, _, _, h => h
 | .cons t r, p, k, hK, vs, x, h => by
   obtain ⟨v, l, e, h1, h2⟩ := h; exact ⟨v, l, e, fun hk => h1 fun h => hk (hK k (Nat.le_refl _) h), DepVsX.mono r p (k + 1) (fun c hc => hK c (by omega)) l x.2 h2⟩
theorem DepVsX.set {w : World} {P : List Nat → Nat → Prop} {q : RT} {ys : List (denR q)} {v : Value} : {K : Nat → Prop} → (r : RT) → (p : List Nat) → (k0 : Nat) → (vs : List Value) → (x : denR r) → (col : Nat) → {z : denR r} → DepVsX w P K r p k0 vs x → rowSetSl r x col q ys = some z → vs[col]? = some v → DepTy w P (.sl q) (p ++ [k0 + col]) v ys →
   DepVsX w P (fun c => K c ∧ c ≠ k0 + col) r p k0 vs z
 | _, .nil, _, _, _, _, _, _, _, h, _, _ => by simp [rowSetSl] at h
 | K, .cons t r, p, k0, vs, x, 0, z, hx, h, hv, hd => by
   obtain ⟨v', l, rfl, h1, h2⟩ := hx
   cases t with
   | sl q' =>
     have h : (castL q' ys).map (fun zs => ((zs, x.2) : denR (.cons (.sl q') r))) = some z := h; obtain ⟨zs, hzs, hz⟩ := Option.map_eq_some_iff.1 h; obtain ⟨e, rfl⟩ := castL_some hzs; subst e; subst hz; simp only [List.getElem?_cons_zero, Option.some.injEq] at hv; subst hv; exact ⟨v', l, rfl, fun _ => hd, DepVsX.mono r p (k0 + 1) (fun c hc hK => ⟨hK, by omega⟩) l x.2 h2⟩
   | int _ => simp [rowSetSl] at h
   | bool => simp [rowSetSl] at h
   | str => simp [rowSetSl] at h
 | K, .cons t r, p, k0, vs, x, col + 1, z, hx, h, hv, hd => by
   obtain ⟨v', l, rfl, h1, h2⟩ := hx; have h' : (rowSetSl r x.2 col q ys).map (fun z => ((x.1, z) : denR (.cons t r))) = some z := by cases t <;> exact h
   obtain ⟨z', hz', hz⟩ := Option.map_eq_some_iff.1 h'; subst hz; have := DepVsX.set r p (k0 + 1) l x.2 col h2 hz' (by simpa using hv) (by rw [show k0 + 1 + col = k0 + (col + 1) by omega]; exact hd); refine ⟨v', l, rfl, fun hk => h1 fun h => hk ⟨h, by omega⟩, ?_⟩
   rwa [show k0 + 1 + col = k0 + (col + 1) by omega] at this
theorem depTy_cast {w : World} {P : List Nat → Nat → Prop} {p : List Nat} {v : Value} {r s : RT} {xs : List (denR r)} {ys : List (denR s)} (h : castL s xs = some ys) (hd : DepTy w P (.sl r) p v xs) : DepTy w P (.sl s) p v ys := by
 obtain ⟨e, rfl⟩ := castL_some h; subst e; exact hd
theorem joinRow_ok {st : St} {P g : Nat} {r : RT} {w : World} {PP : List Nat → Nat → Prop} {p : List Nat} {vs : List Value} : (n : Nat) → (l : List Dr) → (z : denR r) → {z' : denR r} → joinRow st P g r n l z = some z' →
   (∀ m y, l[m]? = some y → ∀ B, arr? st P (n + m) g = some B → B.own = true → B.md = y.q.md → B.r = y.q → ∃ v, vs[y.k]? = some v ∧ DepTy w PP (.sl B.r) (p ++ [y.k]) v B.xs) →
   DepVsX w PP (fun c => ∃ y ∈ l, y.k = c) r p 0 vs z → DepVs w PP r p 0 vs z'
 | n, [], z, z', h, _, hx => by
   simp only [joinRow, Option.some.injEq] at h; subst h; exact DepVsX.full (by simp) _ _ _ _ _ hx
 | n, y :: l, z, z', h, hy, hx => by
   unfold joinRow at h
   cases hB : arr? st P n g with
   | none => rw [hB] at h; cases h
   | some B =>
     rw [hB] at h; obtain ⟨h1, h2⟩ := bif_some h; clear h; rw [Bool.and_eq_true] at h1
     cases hc : castL y.q B.xs with
     | none => rw [hc] at h2; cases h2
     | some ys =>
       rw [hc] at h2; simp only at h2
       cases hr : rowSetSl r z y.k y.q ys with
       | none => rw [hr] at h2; cases h2
       | some z1 =>
         rw [hr] at h2; simp only at h2; obtain ⟨e, he⟩ := castL_some hc; obtain ⟨v, hv, hd⟩ := hy 0 y rfl B hB h1.1 (Md.is_iff.1 h1.2) e; have hd' : DepTy w PP (.sl y.q) (p ++ [0 + y.k]) v ys := by
           rw [Nat.zero_add]; exact depTy_cast hc hd
         refine joinRow_ok (n + 1) l z1 h2 (fun m y' hm B' hB' => hy (m + 1) y' (by simpa using hm) B' (by rw [show n + (m + 1) = n + 1 + m by omega]; exact hB')) ?_; have := DepVsX.set _ _ _ _ _ _ hx hr hv hd'; refine DepVsX.mono _ _ _ (fun c _ hc => ?_) _ _ this; obtain ⟨⟨y', hy', e'⟩, hne⟩ := hc; rcases List.mem_cons.1 hy' with rfl | hy'
         · exact absurd e'.symm (by omega)
         · exact ⟨y', hy', e'⟩
theorem merge_ok {w0 : World} {mu : Mu} {c c1 c5 : Cz} {st st2 st' : St} {a2 : Act} {w w' : World} {x : Dr} {A : Arr} {l : List Dr} {gg : Nat → List Nat} {b o cap : Nat} (hne : x.a ≠ st.length - 1) (hA0 : arr? st x.a x.j x.g = some A) (hown : A.own = true) (hmd : A.md = .dp)
   (hA : ArrOk c w x.a x.j A) (hinc : incr (l.map (·.k)) = true) (hap : Apart c c1 st w x A l gg b o cap) (h5 : Rel w0 mu c5 st2 a2 w') (hfw : Fw c1 (splitSt st x A l) w c5 st2 w')
   (hfr : ∀ k, c1.own k = some (.sp x.a x.j) → w'.heap[k]? = w.heap[k]? ∧ c5.own k = some (.sp x.a x.j))
   (hv : (mergeN (st.length - 1) (genAg st (st.length - 1) + 1) x A l st2).val = some st') : ∃ c6, Rel w0 mu c6 st' a2 w' := by
 unfold mergeN at hv
 cases hH : arr? st2 x.a x.j x.g with
 | none => rw [hH] at hv; cases hv
 | some H =>
   rw [hH] at hv; simp only at hv; obtain ⟨_, hv⟩ := bifN_some hv
   cases hz : A.xs[x.i]? with
   | none => rw [hz] at hv; cases hv
   | some z =>
     rw [hz] at hv; have hv : (match joinRow st2 (st.length - 1) (genAg st (st.length - 1) + 1) A.r 0 l z with
       | some z' => N.done (setArr (upd (fun s => { s with arrs := [], ep := s.ep + 1 }) st2 (st.length - 1)) x.a x.j (some (A.put (A.xs.set x.i z'))))
       | none => .fail).val = some st' := hv
     cases hj : joinRow st2 (st.length - 1) (genAg st (st.length - 1) + 1) A.r 0 l z with
     | none => rw [hj] at hv; cases hv
     | some z' =>
       rw [hj] at hv; simp only [N.val, Option.some.injEq] at hv; subst hv; obtain ⟨P, hP⟩ : ∃ P, P = st.length - 1 := ⟨_, rfl⟩; rw [← hP] at hne hj ⊢; have hne' := hne; rw [hP] at hne'; have hnth := nth_splitSt (A := A) (l := l) hne'; rw [← hP] at hnth; obtain ⟨sla, ha1, ha2, ha3⟩ := arr?_some hA0; have hgA : x.g ≤ genA (splitSt st x A l) x.a := by
         unfold genA; rw [hnth, if_neg hne, if_pos rfl, ha1]; show x.g ≤ sla.ag; omega
       have hfa : ∀ B0, arr? (splitSt st x A l) x.a x.j x.g = some B0 → B0.r.width = A.r.width ∧ B0.xs.length = A.xs.length := by
         intro B0 hB0; obtain ⟨sl, k1, k2, k3⟩ := arr?_some hB0; rw [hnth, if_neg hne, if_pos rfl, ha1] at k1; simp only [Option.map_some, Option.some.injEq] at k1; subst k1; simp only at k3; rw [nth_upd, if_pos rfl, ha3] at k3; simp only [Option.map_some, Option.some.injEq] at k3; subst k3; exact ⟨rfl, rfl⟩
       obtain ⟨B0, q1, q2, q3, q4, _⟩ := hfw.refs x.a x.j x.g H hgA hH; obtain ⟨e1, e2⟩ := hfa B0 q1; have hlc5 : c5.lc x.a x.j = .at b o cap := q4.trans hap.lc1; have hPs : ∀ n B, arr? st2 P n (genAg st P + 1) = some B → ∃ y, l[n]? = some y ∧ B.xs.length = y.ys.length ∧ B.r.width = y.q.width ∧ c5.lc P n = c1.lc P n := by
         intro n B hB; have hgP : genAg st P + 1 ≤ genA (splitSt st x A l) P := by
           unfold genA; rw [hnth, if_pos rfl]; have hPlt : P < st.length := by have := nth_lt ha1; omega
           have : nth st P = some st[P] := by rw [nth_eq]; exact List.getElem?_eq_getElem hPlt
           rw [this]; unfold genAg; rw [this]; exact Nat.le_refl _
         obtain ⟨B1, r1, r2, r3, r4, _⟩ := hfw.refs P n _ B hgP hB; obtain ⟨sl, k1, k2, k3⟩ := arr?_some r1; rw [hnth, if_pos rfl] at k1; obtain ⟨zz, hzz, rfl⟩ := Option.map_eq_some_iff.1 k1; simp only at k3; rw [nth_eq, List.getElem?_map] at k3
         cases hy : l[n]? with
         | none => rw [hy] at k3; cases k3
         | some y =>
           rw [hy] at k3; simp only [Option.map_some, Option.some.injEq] at k3; subst k3; exact ⟨y, rfl, r3, r2, r4⟩
       have hG : ∃ G : Nat → Nat → List Nat, ∀ n B y, arr? st2 P n (genAg st P + 1) = some B → B.own = true → B.md = B.r.md → l[n]? = some y → ∀ v, v.oneCell' = true → SlAt (c5.lc P n) B.r.width 0 B.xs.length v →
           ∀ (PP : List Nat → Nat → Prop) (p : List Nat), (∀ k, c5.own k = some (.sp P n) → PP (p ++ G n k) k) → DepTy w' PP (.sl B.r) p v B.xs := by
         have : ∀ n, ∃ G : Nat → List Nat, ∀ B y, arr? st2 P n (genAg st P + 1) = some B → B.own = true → B.md = B.r.md → l[n]? = some y → ∀ v, v.oneCell' = true → SlAt (c5.lc P n) B.r.width 0 B.xs.length v →
           ∀ (PP : List Nat → Nat → Prop) (p : List Nat), (∀ k, c5.own k = some (.sp P n) → PP (p ++ G k) k) → DepTy w' PP (.sl B.r) p v B.xs := by
           intro n
           by_cases e : ∃ B, arr? st2 P n (genAg st P + 1) = some B ∧ B.own = true ∧ B.md = B.r.md
           · obtain ⟨B, hB, ho, hm⟩ := e
             by_cases e2 : ∃ v : Value, v.oneCell' = true ∧ SlAt (c5.lc P n) B.r.width 0 B.xs.length v
             · obtain ⟨v, hv1, hv2⟩ := e2; obtain ⟨g, hg⟩ := absorb1' (h5.arrOf hB) ho hm; refine ⟨g, fun B' y hB' _ _ _ v' h1 h2 PP p hP' => ?_⟩; rw [hB] at hB'
               cases hB'
               exact hg v' h1 h2 PP p hP'
             · refine ⟨fun _ => [], fun B' y hB' _ _ _ v' h1 h2 => ?_⟩; rw [hB] at hB'
               cases hB'
               exact absurd ⟨v', h1, h2⟩ e2
           · exact ⟨fun _ => [], fun B' y hB' h1 h2 => absurd ⟨B', hB', h1, h2⟩ e⟩
         obtain ⟨G, hG⟩ := Classical.axiomOfChoice this; exact ⟨G, fun n => hG n⟩
       obtain ⟨G, hG⟩ := hG; have hplaces : ∃ g6 : Nat → List Nat, (∀ k, c5.own k = some (.sp x.a x.j) → g6 k = gg k) ∧ ∀ n y k, l[n]? = some y → c5.own k = some (.sp P n) → g6 k = [x.i] ++ [y.k] ++ G n k := by
         have key : ∀ k, ∃ q : List Nat, (c5.own k = some (.sp x.a x.j) → q = gg k) ∧ ∀ n y, l[n]? = some y → c5.own k = some (.sp P n) → q = [x.i] ++ [y.k] ++ G n k := by
           intro k
           by_cases e : ∃ n y, l[n]? = some y ∧ c5.own k = some (.sp P n)
           · obtain ⟨n, y, f1, f2⟩ := e; refine ⟨[x.i] ++ [y.k] ++ G n k, fun h => ?_, fun n' y' h1 h2 => ?_⟩
             · rw [f2] at h; injection h with h; injection h with h _; exact absurd h.symm hne
             · rw [f2] at h2; injection h2 with h2; injection h2 with _ h2; subst h2; rw [f1] at h1
               cases h1
               rfl
           · exact ⟨gg k, fun _ => rfl, fun n y h1 h2 => absurd ⟨n, y, h1, h2⟩ e⟩
         obtain ⟨g6, h⟩ := Classical.axiomOfChoice key; exact ⟨g6, fun k => (h k).1, fun n y k => (h k).2 n y⟩
       obtain ⟨g6, hg6a, hg6b⟩ := hplaces; obtain ⟨hcl, hclf⟩ := h5.clear P; have hdead : ∀ n ∈ (List.range l.length).map (fun n => (P, n)), ∀ sl B, nth (upd (fun s => { s with arrs := [], ep := s.ep + 1 }) st2 P) n.1 = some sl → nth sl.arrs n.2 ≠ some (some B) := by
         intro n hn sl B hs; obtain ⟨m, _, rfl⟩ := List.mem_map.1 hn; rw [nth_upd, if_pos rfl] at hs; obtain ⟨zz, _, rfl⟩ := Option.map_eq_some_iff.1 hs; simp [nth]
       have hrl := hcl.relab hdead x.a x.j; have hmem : ∀ n y, l[n]? = some y → (P, n) ∈ (List.range l.length).map (fun n => (P, n)) := fun n y hn => List.mem_map.2 ⟨n, List.mem_range.2 (List.getElem?_eq_some_iff.1 hn).1, rfl⟩
       have hown6 : ∀ k, c5.own k = some (.sp x.a x.j) → (c5.relab ((List.range l.length).map (fun n => (P, n))) (.sp x.a x.j)).own k = some (.sp x.a x.j) := by
         intro k hk; rw [Cz.relab_out]
         · exact hk
         · intro n hn e; obtain ⟨m, _, rfl⟩ := List.mem_map.1 hn; rw [hk] at e; injection e with e; injection e with e _; exact hne e
       have hH' : arr? (upd (fun s => { s with arrs := [], ep := s.ep + 1 }) st2 P) x.a x.j x.g = some H := by
         obtain ⟨sl, k1, k2, k3⟩ := arr?_some hH; exact arr?_eq (by rw [nth_upd, if_neg hne]; exact k1) k2 k3
       have hb1 : c1.own b = some (.sp x.a x.j) := hap.stay b hap.own (fun y _ q e => by rw [hap.g0] at e; cases e); obtain ⟨hbw, hb5⟩ := hfr b hb1; have hrow' : ∀ (i : Nat) zz, (A.xs.set x.i z')[i]? = some zz → DepR w' (fun p k => (c5.relab ((List.range l.length).map (fun n => (P, n))) (.sp x.a x.j)).own k = some (.sp x.a x.j) ∧ g6 k = p) A.r [i] 0 b (o + i * A.r.width) zz := by
         intro i zz hzz; rw [List.getElem?_set] at hzz
         by_cases e : x.i = i
         · subst e; rw [if_pos rfl, if_pos hap.len] at hzz
           cases hzz
           obtain ⟨vs, r1, r2⟩ := (depR_iff _ _ _ _ _ _).1 (hap.rows x.i z hz); have hvl := DepVs.length _ _ _ _ _ r2; refine (depR_iff _ _ _ _ _ _).2 ⟨vs, fun k v hkv => by rw [World.cell?_of_block (w := w) hbw]; exact r1 k v hkv, ?_⟩; refine joinRow_ok 0 l z hj (fun m y hm B hB hBo hBm hBr => ?_) ?_
           · rw [Nat.zero_add] at hB; obtain ⟨v, u1, u2, u3, u4⟩ := hap.out m y hm; obtain ⟨y', f1, f2, f3, f4⟩ := hPs m B hB; rw [hm] at f1
             cases f1
             have hk : y.k < vs.length := by rw [hvl]; exact u4
             have hvk : vs[y.k]? = some vs[y.k] := List.getElem?_eq_getElem hk; have := r1 y.k _ hvk; rw [u1] at this; refine ⟨v, by rw [hvk, ← Option.some.inj this], ?_⟩; refine hG m B y hB hBo (by rw [hBm, hBr]) hm v u2 (by rw [f4, f2, f3, hP]; exact u3) _ _ (fun k hk => ⟨Cz.relab_in (hmem m y hm) hk, ?_⟩); exact hg6b m y k hm hk
           · refine DepVsX.of _ [x.i] (fun k q kb hK hk => ?_) 0 vs z r2; have hst := hap.stay kb hk.1 (fun y hy q' e => hK ⟨y, hy, by
               have h2 := hk.2; rw [e] at h2; simp at h2; exact h2.1⟩)
             obtain ⟨f1, f2⟩ := hfr kb hst; exact ⟨f1, hown6 kb f2, by rw [hg6a kb f2]; exact hk.2⟩
         · rw [if_neg e] at hzz; refine DepR.go _ [i] [i] (fun q kb hk => ?_) _ _ _ zz hbw (hap.rows i zz hzz); have hst := hap.stay kb hk.1 (fun y _ q' e' => e (by
             have h2 := hk.2; rw [e'] at h2; simp at h2; exact h2.1))
           obtain ⟨f1, f2⟩ := hfr kb hst; exact ⟨f1, hown6 kb f2, by rw [hg6a kb f2]; exact hk.2⟩
       refine ⟨_, hrl.swap hH' (B := A.put (A.xs.set x.i z')) (by rw [q2, e1]; rfl) (by rw [q3, e2]; show (A.xs.set x.i z').length = _; simp) ?_⟩; unfold ArrOk at hA ⊢; show match c5.lc x.a x.j with | .nil => _ | .at b off cap => _
       rw [hlc5]; rw [hap.lc] at hA; obtain ⟨_, g2, ⟨cur, ty, g3, g4⟩, _⟩ := hA; refine ⟨?_, by show (A.xs.set x.i z').length ≤ cap; simpa using g2, ⟨cur, ty, by rw [hbw]; exact g3, g4⟩, ?_⟩
       · show match A.own with | true => _ | false => _
         rw [hown]; exact hown6 b hb5
       · unfold RowsOk; show match A.md with | .sh => _ | .dp => _ | .ho _ => _
         rw [hmd]; exact ⟨g6, by rw [hg6a b hb5]; exact hap.g0, hrow'⟩
theorem nth_map {α β : Type} (f : α → β) : (l : List α) → (n : Nat) → nth (l.map f) n = (nth l n).map f
 | [], _ => rfl
 | _ :: _, 0 => rfl
 | _ :: l, n + 1 => nth_map f l n
theorem nth_thaw (st : St) (s : Nat) : nth (thaw st) s = (nth st s).map (thawS st) := nth_map _ _ _
theorem arr?_thaw (st : St) (a j g : Nat) : arr? (thaw st) a j g = arr? st a j g := by
 unfold arr?; rw [nth_thaw]
 cases nth st a <;> rfl
theorem genA_thaw (st : St) (a : Nat) : genA (thaw st) a = genA st a := by
 unfold genA; rw [nth_thaw]
 cases nth st a <;> rfl
theorem genB_thaw (st : St) (a : Nat) : genB (thaw st) a = genB st a := by
 unfold genB; rw [nth_thaw]
 cases nth st a <;> rfl
theorem epO_thaw (st : St) (a : Nat) : epO (thaw st) a = epO st a := by
 unfold epO; rw [nth_thaw]
 cases nth st a <;> rfl
theorem box?_thaw (st : St) (b g : Nat) : box? (thaw st) b g = (box? st b g).map fun cs => cs.map (thawC st) := by
 unfold box?; rw [nth_thaw]
 cases nth st b with
 | none => rfl
 | some x =>
   show (bif Nat.beq x.bg g then x.box.map _ else none) = _; simp only
   cases Nat.beq x.bg g <;> rfl
theorem Fw.thaw (c : Cz) (st : St) (w : World) : Fw c st w c (thaw st) w where
 stays := Stays.refl w _
 refs a j g A' _ hA' := by
   rw [arr?_thaw] at hA'; exact ⟨A', hA', rfl, rfl, rfl, fun _ => ⟨rfl, fun _ _ _ _ => rfl⟩⟩
 bxs b g cs' _ h := by
   rw [box?_thaw] at h; obtain ⟨cs, h1, _⟩ := Option.map_eq_some_iff.1 h; exact ⟨⟨cs, h1⟩, rfl⟩
 gA a := by rw [genA_thaw]; exact Nat.le_refl _
 gB a := by rw [genB_thaw]; exact Nat.le_refl _
 gE a := by rw [epO_thaw]; exact Nat.le_refl _
theorem thawC_ok {w0 : World} {mu : Mu} {c : Cz} {st : St} {a : Act} {w : World} (h : Rel w0 mu c st a w) {x : CV} {v : Value} (hr : RelC c st w x v) : RelC c st w (thawC st x) v := by
 unfold thawC
 split
 · split
   · rename_i A hA
     cases ho : A.own with
     | true => exact hr
     | false =>
       cases hm : A.md.is .sh with
       | false => exact hr
       | true =>
         have hm := Md.is_iff.1 hm; exact slAt_rep (h.arrOf hA) (hr.2.2 A hA) (ok := c.ok) (fun b h => h) (fun b q => by
           rcases q with q | q
           · rw [ho] at q; cases q
           · rw [hm] at q; cases q) (by rw [hm]; rfl)
   · exact hr
 · exact hr
theorem thawL_ok {w0 : World} {mu : Mu} {c : Cz} {st : St} {a : Act} {w : World} (h : Rel w0 mu c st a w) {cs : List CV} {vs : List Value} (hr : RelL c st w cs vs) : RelL c (thaw st) w (cs.map (thawC st)) vs := by
 refine ⟨by rw [List.length_map]; exact hr.1, fun i x v h1 h2 => ?_⟩; rw [List.getElem?_map] at h1; obtain ⟨y, hy, rfl⟩ := Option.map_eq_some_iff.1 h1; exact (Fw.thaw c st w).relC (thawC_ok h (hr.2 i y v hy h2))
theorem thawV_ok {w0 : World} {mu : Mu} {c : Cz} {st : St} {a : Act} {w : World} (h : Rel w0 mu c st a w) {x : V} {v : Value} (hr : RelV c st w x v) : RelV c (thaw st) w (thawV st x) v := by
 cases x with
 | one x => exact (Fw.thaw c st w).relC (thawC_ok h hr)
 | agg cs =>
   obtain ⟨vs, h1, h2⟩ := hr; exact ⟨vs, h1, thawL_ok h h2⟩
 | tup us => exact (Fw.thaw c st w).relV hr
theorem Rel.thaw {w0 : World} {mu : Mu} {c : Cz} {st : St} {a : Act} {w : World} (h : Rel w0 mu c st a w) : Rel w0 mu c (thaw st) a w where
 regs t := by
   have e : getV (Go.TM.thaw st) t = thawV st (getV st t) := by
     unfold getV; rw [nth_thaw]
     cases nth st t <;> rfl
   rw [e]; exact thawV_ok h (h.regs t)
 boxes s sl cs hs hb := by
   rw [nth_thaw] at hs; obtain ⟨x, hx, rfl⟩ := Option.map_eq_some_iff.1 hs; have hb : x.box.map (fun cs => cs.map (thawC st)) = some cs := hb; obtain ⟨cs0, hc, rfl⟩ := Option.map_eq_some_iff.1 hb; obtain ⟨k1, vs, ty, k2, k3⟩ := h.boxes s x cs0 hx hc; exact ⟨k1, vs, ty, k2, thawL_ok h k3⟩
 arrs s j sl A hs hb := by
   rw [nth_thaw] at hs; obtain ⟨x, hx, rfl⟩ := Option.map_eq_some_iff.1 hs; exact h.arrs s j x A hx hb
 owned := h.owned
 free := h.free
 kept := h.kept
 old := h.old
 plain := h.plain
 anch p hp := by
   have h0 := h.anch p hp
   cases p with
   | arr a j g W n l =>
     refine ⟨by rw [genA_thaw]; exact h0.1, fun A hA => ?_⟩; rw [arr?_thaw] at hA; exact h0.2 A hA
   | box b g blk =>
     refine ⟨by rw [genB_thaw]; exact h0.1, fun cs hcs => ?_⟩; rw [box?_thaw] at hcs; obtain ⟨cs0, hc, _⟩ := Option.map_eq_some_iff.1 hcs; exact h0.2 cs0 hc
theorem thawP_ok {w0 : World} {mu : Mu} {c : Cz} {st : St} {a : Act} {w : World} (ms : List (Pm × V)) (h : Rel w0 mu c st a w) : Rel w0 mu c (thawP ms st) a w ∧ ∀ x v, RelV c st w x v → RelV c (thawP ms st) w x v := by
 unfold thawP
 cases ms.any (fun m => m.1.isPick)
 · exact ⟨h, fun _ _ hr => hr⟩
 · exact ⟨h.thaw, fun _ _ hr => (Fw.thaw c st w).relV hr⟩
theorem callV_ok {P : Program} {S : Sems} (hS : SemsOk P S) {w0 : World} {mu : Mu} {c : Cz} {st st' : St} {a : Act} {w : World} (h : Rel w0 mu c st a w) {o : Oper} {f : FuncId} {vals : Array Value} {xs : List V}
   (hrun : ∀ fn, P.funcs[f]? = some fn → fn.name ≠ "runtime.NumGoroutine" → fn.body ≠ none → (execOp a.eval o).run P w = .ok (.enter f vals) w)
   (hlen0 : xs.length = vals.toList.length) (hrel1 : ∀ (k : Nat) (m : V) (x : Value), xs[k]? = some m → vals.toList[k]? = some x → RelV c st w m x)
   (hv : (callN S st o.dst f xs).val = some st') (hd : ∀ k, o.dst = some k → k < a.tmps.size) : StepK P w0 mu st' o a w (quietArgs S st f xs) := by
 unfold quietArgs; unfold callN at hv
 cases hf : S f with
 | none => simp [hf, N.val] at hv
 | some p =>
   obtain ⟨m1, m2, m3, sem⟩ := p; simp only [hf] at hv ⊢; obtain ⟨hfn, fn, hfn1, hfn2, hfn3⟩ := hS f m1 m2 m3 sem hf; have hrun := hrun fn hfn1 (by simpa using hfn2) (by intro e; rw [e] at hfn3; cases hfn3); have hsnd := modes_snd m1 m2 m3 xs; generalize modes m1 m2 m3 xs = ms at hv hsnd ⊢; have hlen : ms.length = vals.toList.length := by
     have := congrArg List.length hsnd; rw [List.length_map] at this; omega
   have hrel : ∀ (k : Nat) (m : Pm × V) (x : Value), ms[k]? = some m → vals.toList[k]? = some x → RelV c st w m.2 x := by
     intro k m x hm hx; have h1 : (ms.map (·.2))[k]? = some m.2 := by rw [List.getElem?_map, hm]; rfl
     rw [hsnd] at h1; exact hrel1 k m.2 x h1 hx
   have hR := h.freeze (fzOf st ms); have hrel0 : ∀ (k : Nat) (m : Pm × V) (x : Value), ms[k]? = some m → vals.toList[k]? = some x → RelV (c.drop (fzOf st ms)) (freeze st (fzOf st ms)) w m.2 x := fun k m x h1 h2 => (Fw.freeze w _ c st).relV (hrel k m x h1 h2)
   generalize freeze st (fzOf st ms) = st00 at hv hR hrel0 ⊢; generalize c.drop (fzOf st ms) = c0 at hR hrel0; have hrel0 : ∀ (k : Nat) (m : Pm × V) (x : Value), ms[k]? = some m → vals.toList[k]? = some x → RelV c0 (thawP ms st00) w m.2 x := fun k m x h1 h2 => (thawP_ok ms hR).2 _ _ (hrel0 k m x h1 h2)
   have hR := (thawP_ok ms hR).1; generalize thawP ms st00 = st0 at hv hR hrel0 ⊢; unfold callS at hv
   cases hsp : splitOf st0 ms with
   | none =>
     rw [hsp] at hv; exact callB_ok hR hrun hfn hlen hrel0 hv hd (fun h => h) (fun c5 st2 a2 w' hr _ _ hfin => by
       simp only [N.val, Option.some.injEq] at hfin; subst hfin; exact ⟨c5, hr⟩)
   | some p =>
     obtain ⟨x, A, l⟩ := p; rw [hsp] at hv; simp only at hv ⊢; have hrelm : ∀ m ∈ ms, ∃ v, RelV c0 st0 w m.2 v := by
       intro m hm; obtain ⟨k, hk⟩ := List.mem_iff_getElem?.1 hm; have hlt : k < vals.toList.length := by rw [← hlen]; exact (List.getElem?_eq_some_iff.1 hk).1
       exact ⟨_, hrel0 k m _ hk (List.getElem?_eq_getElem hlt)⟩
     obtain ⟨c1, gg, b, oo, cap, hR1, hF1, hap, hvals⟩ := split_ok hR hsp hrelm; obtain ⟨hl, hA, hown, hmd, hep, hall, hinc, hne⟩ := splitOf_some hsp; refine callB_ok hR1 hrun hfn (by rw [List.length_map]; exact hlen) (fun k m v h1 h2 => ?_) hv hd (fun h => by cases h) (fun c5 st2 a2 w' hr hf hfr hfin => ?_)
     · rw [List.getElem?_map] at h1; obtain ⟨m0, hm0, rfl⟩ := Option.map_eq_some_iff.1 h1; exact hvals m0 (List.mem_of_getElem? hm0) v (hrel0 k m0 v hm0 h2)
     · refine merge_ok hne hA hown hmd (hR.arrOf hA) hinc hap hr hf (fun k hk => ?_) hfin; have hnot : ¬ LiveL (splitSt st0 x A l) (x.a, x.j) := by
         rintro ⟨g', B, hB, hBm⟩
         obtain ⟨sl, k1, k2, k3⟩ := arr?_some hB; rw [nth_splitSt hne, if_neg hne, if_pos rfl] at k1; obtain ⟨zz, hzz, rfl⟩ := Option.map_eq_some_iff.1 k1; simp only at k3; rw [nth_upd, if_pos rfl] at k3
         cases hq : nth zz.arrs x.j with
         | none => rw [hq] at k3; cases k3
         | some B2 =>
           rw [hq] at k3; simp only [Option.map_some, Option.some.injEq] at k3; subst k3
           cases hBm
       cases hex : expAll (splitSt st0 x A l) (ms.map (undV (st0.length - 1) (genAg st0 (st0.length - 1) + 1) l)) with
       | none =>
         unfold callB at hv; rw [hex] at hv
         cases hv
       | some pp =>
         obtain ⟨avs, u, q, r⟩ := pp; obtain ⟨l1, l2⟩ := expAll_live _ hex; exact hfr avs u q r hex k _ rfl (fun hm => hnot (l1 _ _ hm)) (fun p hp e => by
           injection e with e1 e2; exact hnot (by rw [e1, e2]; exact l2 p hp)) hk
theorem callN_ok {P : Program} {S : Sems} (hS : SemsOk P S) {w0 : World} {mu : Mu} {c : Cz} {st st' : St} {a : Act} {w : World} (h : Rel w0 mu c st a w) {o : Oper} {f : FuncId} {args : Array Operand} {tys : Array TypeId} (ho : o.op = .call { callee := .value (.func f), args := args, argTypes := tys })
   (hv : (callN S st o.dst f (args.toList.map (opd st))).val = some st') (hd : ∀ k, o.dst = some k → k < a.tmps.size) : StepK P w0 mu st' o a w (kindOk S st o .one) := by
 have hq0 : kindOk S st o .one = quietArgs S st f (args.toList.map (opd st)) := by unfold kindOk; simp only [ho]
 rw [hq0]; refine callV_ok (vals := args.map a.eval) hS h (fun fn hfn1 q2 q3 => ?_) (by simp) (fun k m x hm hx => ?_) hv hd
 · simp only [execOp, ho]; simp [resolve, Act.eval, Deferred.ofValue, invoke, callFunc, Sem.run_bind, hfn1, q2, q3]
 · rw [List.getElem?_map] at hm; rw [Array.toList_map, List.getElem?_map] at hx
   cases hy : args.toList[k]? with
   | none => rw [hy] at hm; simp at hm
   | some y =>
     rw [hy] at hm hx; simp only [Option.map_some, Option.some.injEq] at hm hx; rw [← hm, ← hx]; exact opd_rel h y
theorem callT_ok {P : Program} {S : Sems} (hS : SemsOk P S) {w0 : World} {mu : Mu} {c : Cz} {st st' : St} {a : Act} {w : World} (h : Rel w0 mu c st a w) {o : Oper} {t g : Nat} {rs : RT} {xs : List (denR rs)} {x : denR rs} {args : Array Operand} {tys : Array TypeId} (ho : o.op = .call { callee := .value (.tmp t), args := args, argTypes := tys })
   (ht : getV st t = .one (.fn g rs xs)) (hx0 : xs[0]? = some x) (hv : (callN S st o.dst g (args.toList.map (opd st) ++ capVs rs x)).val = some st') (hd : ∀ k, o.dst = some k → k < a.tmps.size) : StepK P w0 mu st' o a w (kindOk S st o .one) := by
 have hq0 : kindOk S st o .one = quietArgs S st g (args.toList.map (opd st) ++ capVs rs x) := by unfold kindOk; simp only [ho, ht, hx0]
 rw [hq0]; have hfn := h.regs t; rw [ht] at hfn; obtain ⟨caps, e, hcaps⟩ := hfn; obtain ⟨k1, k2⟩ := capVs_ok (st := st) rs caps.toList x (hcaps x hx0); refine callV_ok (vals := args.map a.eval ++ caps) hS h (fun fn hfn1 q2 q3 => ?_) (by simp [k1]) (fun k m y hm hy => ?_) hv hd
 · simp only [execOp, ho]; simp [resolve, e, Deferred.ofValue, invoke, callFunc, Sem.run_bind, hfn1, q2, q3]
 · rw [Array.toList_append] at hy
   by_cases hk : k < args.size
   · rw [List.getElem?_append_left (by simpa using hk)] at hm hy; rw [List.getElem?_map] at hm; rw [Array.toList_map, List.getElem?_map] at hy
     cases hz : args.toList[k]? with
     | none => rw [hz] at hm; simp at hm
     | some z =>
       rw [hz] at hm hy; simp only [Option.map_some, Option.some.injEq] at hm hy; rw [← hm, ← hy]; exact opd_rel h z
   · rw [List.getElem?_append_right (by simp; omega)] at hm hy; simp only [List.length_map, Array.length_toList, Array.toList_map] at hm hy; exact k2 _ m y hm hy
theorem appendT_ok {P : Program} {T : Tab} (hT : TabOk P T) {S : Sems} {w0 : World} {mu : Mu} {c : Cz} {st st' : St} {a : Act} {w : World} (h : Rel w0 mu c st a w) {o : Oper} (hsp : spApp st o = true)
   (hv : (opN T S st o).val = some st') (hd : ∀ k, o.dst = some k → k < a.tmps.size) : StepK P w0 mu st' o a w (kindOk S st o .one) := by
 unfold spApp at hsp
 cases ho : o.op with
 | call cl =>
   obtain ⟨callee, args, tys⟩ := cl; rw [ho] at hsp
   cases callee with
   | builtin b =>
     cases b with
     | append =>
       unfold opN at hv; simp only [ho] at hv hsp
       split at hv
       · contradiction
       · rename_i x y t u _ ha ht; obtain ⟨htu, hv1⟩ := bifN_some hv; have htu := Nat.eq_of_beq_eq_true htu; subst htu; have ha : args = #[x, y] := by rw [← Array.toArray_toList (xs := args), ha]
         have ht : tys = #[t, t] := by rw [← Array.toArray_toList (xs := tys), ht]
         subst ha ht; have hsp : (splitOf st [(.io, opd st x)]).isSome = true := hsp; obtain ⟨p, hp⟩ := Option.isSome_iff_exists.1 hsp; obtain ⟨z, A, l⟩ := p; unfold appendT at hv1; rw [hp] at hv1; obtain ⟨c1, gg, b, oo, cap, hR1, hF1, hap, hvals⟩ := split_ok h hp (fun m hm => by
           rw [List.mem_singleton] at hm; subst hm; exact ⟨_, opd_rel h x⟩)
         have hx := hvals _ (List.mem_singleton.2 rfl) _ (opd_rel h x); have hy := hF1.relV (opd_rel h y); obtain ⟨v, w', h1, c', h2⟩ := appendN_ok (ty := o.type) hT hR1 hx hy hv1 hd; exact step_value (c' := c') (by simp only [execOp, ho]; simp [resolve, invoke, builtin, Sem.run_bind, h1]) h2 (fun hk => by simp [kindOk, ho] at hk)
       all_goals (first | contradiction | (simp [N.val] at hv))
     | _ => simp at hsp
   | _ => simp at hsp
 | _ => rw [ho] at hsp; simp at hsp
theorem opSound {P : Program} {T : Tab} (hT : TabOk P T) (hE : EqOk P T) {S : Sems} (hS : SemsOk P S) (w0 : World) (mu : Mu) (n : Nat) : OpSound P T S w0 mu n := by
 intro c st st' a w o h hn hd hv; have hd' : ∀ k, o.dst = some k → k < a.tmps.size := fun k hk => by rw [hn]; exact hd k hk
 by_cases hf : Op.isFn o.op = true
 · cases ho : o.op with
   | call cl =>
     obtain ⟨callee, args, tys⟩ := cl
     cases callee with
     | value x =>
       cases x with
       | func f =>
         unfold opN at hv; simp only [ho] at hv; exact callN_ok hS h ho hv hd'
       | tmp t =>
         unfold opN at hv; simp only [ho] at hv
         split at hv
         · rename_i g rs xs ht
           cases hx0 : xs[0]? with
           | none => simp [hx0, N.val] at hv
           | some x =>
             simp only [hx0] at hv; exact callT_ok hS h ho ht hx0 hv hd'
         · simp [N.val] at hv
       | _ => rw [ho] at hf; simp [Op.isFn] at hf
     | _ => rw [ho] at hf; simp [Op.isFn] at hf
   | _ => rw [ho] at hf; simp [Op.isFn] at hf
 · cases hsp : spApp st o with
   | false => exact opN_ok hT hE h (by simpa using hf) hsp hv hd'
   | true => exact appendT_ok hT h hsp hv hd'
end Go.TM
namespace Go.TM
open Go Go.RowKit
inductive OP where
 | int (k : IntKind)
 | bool
 | str
 | own (r : RT) (d : Md := .sh)
 | shr (r : RT)
 | rpt (r : RT)
 | fn (g : Nat) (rs : RT)
inductive AP where
 | val (agg : Bool) (ps : List OP)
 | io (r : RT) (d : Md := .sh)
 | box (lent : Bool) (ps : List OP)
 | lend (ps : List OP)
def OP.ty : OP → Ty
 | .int k => .int k
 | .bool => .bool
 | .str => .str
 | .own r _ => .sl r
 | .shr r => .sl r
 | .rpt r => .sl r
 | .fn _ rs => .sl rs
def OP.isOwn : OP → Bool
 | .own _ _ => true
 | _ => false
def opsRT : List OP → RT → RT
 | [], t => t
 | p :: ps, t => .cons p.ty (opsRT ps t)
def AP.rt : AP → RT → RT
 | .val _ ps, t => opsRT ps t
 | .io r _, t => .cons (.sl r) t
 | .box _ ps, t => opsRT ps t
 | .lend ps, t => opsRT ps t
def headRT : List (Option AP) → RT
 | [] => .nil
 | none :: l => headRT l
 | some p :: l => p.rt (headRT l)
def OP.ov : (p : OP) → den p.ty → OV
 | .int k, n => .int k n
 | .bool, b => .bool b
 | .str, s => .str s
 | .own r d, xs => .own { r := r, own := true, xs := xs, md := d }
 | .shr r, xs => .shr r xs
 | .rpt r, xs => .rpt r xs
 | .fn g rs, xs => .fn g rs xs
def opsOV : (ps : List OP) → (t : RT) → denR (opsRT ps t) → List OV × denR t
 | [], _, x => ([], x)
 | p :: ps, t, x => (p.ov x.1 :: (opsOV ps t x.2).1, (opsOV ps t x.2).2)
def AP.av : (p : AP) → (t : RT) → denR (p.rt t) → AV × denR t
 | .val agg ps, t, x => (.val agg (opsOV ps t x).1, (opsOV ps t x).2)
 | .io r d, _, x => (.io { r := r, own := true, xs := x.1, md := d }, x.2)
 | .box _ ps, t, x => (.box (opsOV ps t x).1, (opsOV ps t x).2)
 | .lend ps, t, x => (.lend (opsOV ps t x).1, (opsOV ps t x).2)
def heads : (l : List (Option AP)) → denR (headRT l) → List (Option AV)
 | [], _ => []
 | none :: l, x => none :: heads l x
 | some p :: l, x => some (p.av (headRT l) x).1 :: heads l (p.av (headRT l) x).2
def castO : (p : OP) → OV → Option (den p.ty)
 | .int k, .int l n => if k = l then some n else none
 | .bool, .bool b => some b
 | .str, .str s => some s
 | .own r d, .own A => bif A.md.is d then castL r A.xs else none
 | .own _ _, .nils => some ([] : List _)
 | .shr r, .shr _ xs => castL r xs
 | .shr _, .nils => some ([] : List _)
 | .rpt r, .rpt _ xs => castL r xs
 | .fn g rs, .fn f _ xs => bif Nat.beq f g then castL rs xs else none
 | _, _ => none
def castOs : (ps : List OP) → (t : RT) → List OV → denR t → Option (denR (opsRT ps t))
 | [], _, [], y => some y
 | p :: ps, t, o :: os, y => match castO p o, castOs ps t os y with
   | some x, some z => some (x, z)
   | _, _ => none
 | _, _, _, _ => none
def castA : (p : AP) → (t : RT) → AV → denR t → Option (denR (p.rt t))
 | .val true ps, t, .val true os, y => castOs ps t os y
 | .val false ps, t, .val false os, y => castOs ps t os y
 | .io r d, _, .io A, y => bif A.md.is d then (match castL r A.xs with
   | some xs => some (xs, y)
   | none => none) else none
 | .box _ ps, t, .box os, y => castOs ps t os y
 | .lend ps, t, .lend os, y => castOs ps t os y
 | _, _, _, _ => none
def castAs : (l : List AP) → List AV → Option (denR (headRT (l.map some)))
 | [], [] => some ()
 | p :: l, a :: as => match castAs l as with
   | some y => castA p (headRT (l.map some)) a y
   | none => none
 | _, _ => none
def packL (st : St) : (ps : List OP) → (t : RT) → List CV → denR t → Option (denR (opsRT ps t) × List (Option Lb) × List (Nat × Nat))
 | [], _, [], y => some (y, [], [])
 | p :: ps, t, c :: cs, y => match expC st p.isOwn c, packL st ps t cs y with
   | some (o, u, r), some (z, us, rs) => match castO p o with
     | some x => some ((x, z), u :: us, r ++ rs)
     | none => none
   | _, _ => none
 | _, _, _, _ => none
def packA (st : St) (k : Nat) : (p : AP) → (t : RT) → V → denR t → Option (denR (p.rt t) × List Lb × List (Nat × Nat))
 | .val agg ps, t, v, y =>
   match agg, v with
   | true, .agg cs => (packL st ps t cs y).map fun q => (q.1, somes q.2.1, q.2.2)
   | false, .one c => (packL st ps t [c] y).map fun q => (q.1, somes q.2.1, q.2.2)
   | _, _ => none
 | .io r d, _, v, y =>
   match v with
   | .one (.ref a j g .full) => bif Nat.beq a k && (Nat.beq j 0 && Nat.beq g 1) then ((arr? st a j g).bind fun A => bif A.own && A.md.is d then (castL r A.xs).map fun xs => ((xs, y), [.sp a j], []) else none) else none
   | _ => none
 | .box lent ps, t, v, y =>
   match v with
   | .one (.ptr b g off) => bif Nat.beq off 0 && (!lent || (Nat.beq b k && Nat.beq g 1)) then ((box? st b g).bind fun cs => (packL st ps t cs y).map fun q => (q.1, .box b :: somes q.2.1, q.2.2)) else none
   | _ => none
 | .lend _, _, _, _ => none
def packHead (st : St) : (k : Nat) → (l : List (Option AP)) → Option (denR (headRT l) × List Lb × List (Nat × Nat))
 | _, [] => some ((), [], [])
 | k, none :: l => packHead st (k + 1) l
 | k, some p :: l => match packHead st (k + 1) l with
   | some (y, us, rs) => match packA st k p (headRT l) (getV st k) y with
     | some (x, u, r) => some (x, u ++ us, r ++ rs)
     | none => none
   | none => none
def Sl.blank : Sl := { v := .one .bad, box := .none, bg := 1, arrs := [], ag := 1 }
def slotOf (k : Nat) : Option AV → Sl
 | none => Sl.blank
 | some (.lend os) => { v := .agg (cellOfOV k 1 0 os), box := none, bg := 1, arrs := arrsOfOV os, ag := 1 }
 | some (.val true os) => { v := .agg (cellOfOV k 1 0 os), box := none, bg := 1, arrs := arrsOfOV os, ag := 1 }
 | some (.val false os) => { v := match cellOfOV k 1 0 os with | [c] => .one c | _ => .one .bad, box := none, bg := 1, arrs := arrsOfOV os, ag := 1 }
 | some (.io A) => { v := .one (.ref k 0 1 .full), box := none, bg := 1, arrs := [some A], ag := 1 }
 | some (.box os) => { v := .one (.ptr k 1 0), box := some (cellOfOV k 1 0 os), bg := 1, arrs := arrsOfOV os, ag := 1 }
def slots : (k : Nat) → List (Option AV) → St
 | _, [] => []
 | k, a :: l => slotOf k a :: slots (k + 1) l
theorem nth_slots : (l : List (Option AV)) → (k i : Nat) → nth (slots k l) i = (l[i]?).map (slotOf (k + i))
 | [], _, _ => by simp [slots]
 | a :: l, k, 0 => by simp [slots, nth]
 | a :: l, k, i + 1 => by
   simp only [slots, nth, List.getElem?_cons_succ]; rw [nth_slots l (k + 1) i, show k + 1 + i = k + (i + 1) by omega]
theorem castO_ok {c : Cz} {w : World} {f : Nat → Lb} {j : Nat} : (p : OP) → (o : OV) → (x : den p.ty) → castO p o = some x → {os os' : List OV} → {vs : List Value} → (∀ l, HoldL c w f (j + 1) os l → HoldL c w f (j + 1) os' l) → HoldL c w f j (o :: os) vs → HoldL c w f j (p.ov x :: os') vs
 | .int k, .int l n, x, hx, os, os', vs, hos, h => by
   have hx : (if k = l then some (n : Int) else none) = some (x : Int) := hx
   by_cases e : k = l
   · rw [if_pos e] at hx; have hx : n = x := Option.some.inj hx; obtain ⟨l', h1, h2⟩ := h; exact ⟨l', by rw [h1, e, hx], hos _ h2⟩
   · rw [if_neg e] at hx
     cases hx
 | .bool, .bool b, x, hx, os, os', vs, hos, h => by
   have hx : b = x := Option.some.inj hx; subst hx; obtain ⟨l', h1, h2⟩ := h; exact ⟨l', h1, hos _ h2⟩
 | .str, .str b, x, hx, os, os', vs, hos, h => by
   have hx : b = x := Option.some.inj hx; subst hx; obtain ⟨l', h1, h2⟩ := h; exact ⟨l', h1, hos _ h2⟩
 | .own r d, .own A, x, hx, os, os', vs, hos, h => by
   obtain ⟨v, l', h1, ⟨lc, h2⟩, h3⟩ := h; have hx : (bif A.md.is d then castL r A.xs else none) = some x := hx; obtain ⟨hd, hx⟩ := bif_some hx; have hd := Md.is_iff.1 hd; obtain ⟨e, rfl⟩ := castL_some hx; obtain ⟨r0, own0, xs0, md0⟩ := A; simp only at e hd; subst e hd; have ho : own0 = true := h2.2.2.1; subst ho; exact ⟨v, l', h1, ⟨lc, h2⟩, hos _ h3⟩
 | .own r _, .nils, x, hx, os, os', vs, hos, h => by
   have hx : ([] : List (denR r)) = x := Option.some.inj hx; subst hx; obtain ⟨l', h1, h2⟩ := h; exact ⟨_, l', h1, ⟨.nil, rfl, ⟨rfl, rfl⟩, rfl, rfl⟩, hos _ h2⟩
 | .shr r, .shr q xs, x, hx, os, os', vs, hos, h => by
   obtain ⟨v, l', h1, h2, h3⟩ := h; have hx : castL r xs = some x := hx; obtain ⟨e, rfl⟩ := castL_some hx; subst e; exact ⟨v, l', h1, h2, hos _ h3⟩
 | .shr r, .nils, x, hx, os, os', vs, hos, h => by
   have hx : ([] : List (denR r)) = x := Option.some.inj hx; subst hx; obtain ⟨l', h1, h2⟩ := h; exact ⟨_, l', h1, (repSl _ _ _ _ _).2 (.inl ⟨rfl, rfl⟩), hos _ h2⟩
 | .rpt r, .rpt q xs, x, hx, os, os', vs, hos, h => by
   obtain ⟨v, l', h1, h2, h3⟩ := h; have hx : castL r xs = some x := hx; obtain ⟨e, rfl⟩ := castL_some hx; subst e; exact ⟨v, l', h1, h2, hos _ h3⟩
 | .fn g r, .fn f q xs, x, hx, os, os', vs, hos, h => by
   obtain ⟨v, l', h1, h2, h3⟩ := h; have hx : (bif Nat.beq f g then castL r xs else none) = some x := hx; obtain ⟨hfg, hx⟩ := bif_some hx; have hfg := Nat.eq_of_beq_eq_true hfg; subst hfg; obtain ⟨e, rfl⟩ := castL_some hx; subst e; exact ⟨v, l', h1, h2, hos _ h3⟩
 | .int _, .bool _, _, hx, _, _, _, _, _ => by cases hx
 | .int _, .str _, _, hx, _, _, _, _, _ => by cases hx
 | .int _, .own _, _, hx, _, _, _, _, _ => by cases hx
 | .int _, .shr _ _, _, hx, _, _, _, _, _ => by cases hx
 | .int _, .nils, _, hx, _, _, _, _, _ => by cases hx
 | .int _, .rpt _ _, _, hx, _, _, _, _, _ => by cases hx
 | .int _, .fn _ _ _, _, hx, _, _, _, _, _ => by cases hx
 | .bool, .int _ _, _, hx, _, _, _, _, _ => by cases hx
 | .bool, .str _, _, hx, _, _, _, _, _ => by cases hx
 | .bool, .own _, _, hx, _, _, _, _, _ => by cases hx
 | .bool, .shr _ _, _, hx, _, _, _, _, _ => by cases hx
 | .bool, .nils, _, hx, _, _, _, _, _ => by cases hx
 | .bool, .rpt _ _, _, hx, _, _, _, _, _ => by cases hx
 | .bool, .fn _ _ _, _, hx, _, _, _, _, _ => by cases hx
 | .str, .int _ _, _, hx, _, _, _, _, _ => by cases hx
 | .str, .bool _, _, hx, _, _, _, _, _ => by cases hx
 | .str, .own _, _, hx, _, _, _, _, _ => by cases hx
 | .str, .shr _ _, _, hx, _, _, _, _, _ => by cases hx
 | .str, .nils, _, hx, _, _, _, _, _ => by cases hx
 | .str, .rpt _ _, _, hx, _, _, _, _, _ => by cases hx
 | .str, .fn _ _ _, _, hx, _, _, _, _, _ => by cases hx
 | .own _ _, .int _ _, _, hx, _, _, _, _, _ => by cases hx
 | .own _ _, .bool _, _, hx, _, _, _, _, _ => by cases hx
 | .own _ _, .str _, _, hx, _, _, _, _, _ => by cases hx
 | .own _ _, .shr _ _, _, hx, _, _, _, _, _ => by cases hx
 | .own _ _, .rpt _ _, _, hx, _, _, _, _, _ => by cases hx
 | .own _ _, .fn _ _ _, _, hx, _, _, _, _, _ => by cases hx
 | .shr _, .int _ _, _, hx, _, _, _, _, _ => by cases hx
 | .shr _, .bool _, _, hx, _, _, _, _, _ => by cases hx
 | .shr _, .str _, _, hx, _, _, _, _, _ => by cases hx
 | .shr _, .own _, _, hx, _, _, _, _, _ => by cases hx
 | .shr _, .rpt _ _, _, hx, _, _, _, _, _ => by cases hx
 | .shr _, .fn _ _ _, _, hx, _, _, _, _, _ => by cases hx
 | .rpt _, .int _ _, _, hx, _, _, _, _, _ => by cases hx
 | .rpt _, .bool _, _, hx, _, _, _, _, _ => by cases hx
 | .rpt _, .str _, _, hx, _, _, _, _, _ => by cases hx
 | .rpt _, .own _, _, hx, _, _, _, _, _ => by cases hx
 | .rpt _, .shr _ _, _, hx, _, _, _, _, _ => by cases hx
 | .rpt _, .nils, _, hx, _, _, _, _, _ => by cases hx
 | .rpt _, .fn _ _ _, _, hx, _, _, _, _, _ => by cases hx
 | .fn _ _, .int _ _, _, hx, _, _, _, _, _ => by cases hx
 | .fn _ _, .bool _, _, hx, _, _, _, _, _ => by cases hx
 | .fn _ _, .str _, _, hx, _, _, _, _, _ => by cases hx
 | .fn _ _, .own _, _, hx, _, _, _, _, _ => by cases hx
 | .fn _ _, .shr _ _, _, hx, _, _, _, _, _ => by cases hx
 | .fn _ _, .nils, _, hx, _, _, _, _, _ => by cases hx
 | .fn _ _, .rpt _ _, _, hx, _, _, _, _, _ => by cases hx
theorem castOs_ok {c : Cz} {w : World} {f : Nat → Lb} : (ps : List OP) → (t : RT) → (os : List OV) → (y : denR t) → {x : denR (opsRT ps t)} → castOs ps t os y = some x → (opsOV ps t x).2 = y ∧ ∀ (j : Nat) (vs : List Value), HoldL c w f j os vs → HoldL c w f j (opsOV ps t x).1 vs
 | [], t, [], y, x, h => by
   have h : y = x := Option.some.inj h; subst h; exact ⟨rfl, fun _ _ h => h⟩
 | [], _, _ :: _, _, _, h => by simp [castOs] at h
 | _ :: _, _, [], _, _, h => by simp [castOs] at h
 | p :: ps, t, o :: os, y, x, h => by
   unfold castOs at h
   cases h1 : castO p o with
   | none => simp [h1] at h
   | some a =>
     cases h2 : castOs ps t os y with
     | none => simp [h1, h2] at h
     | some z =>
       simp only [h1, h2] at h; have h : (a, z) = x := Option.some.inj h; subst h; obtain ⟨g1, g2⟩ := castOs_ok (c := c) (w := w) (f := f) ps t os y h2; exact ⟨g1, fun j vs hh => castO_ok p o a h1 (fun l => g2 (j + 1) l) hh⟩
theorem HoldL.nthc {c : Cz} {w : World} {f : Nat → Lb} : (os : List OV) → (j : Nat) → (vs : List Value) → HoldL c w f j os vs → vs.length = os.length ∧ ∀ (k : Nat) (o : OV) (u : Value), os[k]? = some o → vs[k]? = some u → HoldL c w f (j + k) [o] [u]
 | [], j, vs, h => by
   subst h; exact ⟨rfl, fun k o u h => by simp at h⟩
 | o :: os, j, vs, h => by
   obtain ⟨v, l, rfl, h1, h2⟩ : ∃ v l, vs = v :: l ∧ HoldL c w f j [o] [v] ∧ HoldL c w f (j + 1) os l := by
     cases o with
     | int k n => obtain ⟨l, h1, h2⟩ := h; exact ⟨_, l, h1, ⟨[], rfl, rfl⟩, h2⟩
     | bool b => obtain ⟨l, h1, h2⟩ := h; exact ⟨_, l, h1, ⟨[], rfl, rfl⟩, h2⟩
     | str b => obtain ⟨l, h1, h2⟩ := h; exact ⟨_, l, h1, ⟨[], rfl, rfl⟩, h2⟩
     | nils => obtain ⟨l, h1, h2⟩ := h; exact ⟨_, l, h1, ⟨[], rfl, rfl⟩, h2⟩
     | shr r xs => obtain ⟨v, l, h1, h2, h3⟩ := h; exact ⟨v, l, h1, ⟨v, [], rfl, h2, rfl⟩, h3⟩
     | rpt r xs => obtain ⟨v, l, h1, h2, h3⟩ := h; exact ⟨v, l, h1, ⟨v, [], rfl, h2, rfl⟩, h3⟩
     | fn g r xs => obtain ⟨v, l, h1, h2, h3⟩ := h; exact ⟨v, l, h1, ⟨v, [], rfl, h2, rfl⟩, h3⟩
     | own A => obtain ⟨v, l, h1, h2, h3⟩ := h; exact ⟨v, l, h1, ⟨v, [], rfl, h2, rfl⟩, h3⟩
   obtain ⟨g1, g2⟩ := HoldL.nthc os (j + 1) l h2; refine ⟨by simp [g1], fun k o' u ho hu => ?_⟩
   cases k with
   | zero =>
     simp only [List.getElem?_cons_zero, Option.some.injEq] at ho hu; subst ho hu; exact h1
   | succ k =>
     have := g2 k o' u (by simpa using ho) (by simpa using hu)
     rwa [show j + 1 + k = j + (k + 1) by omega] at this
theorem castOs_at : (ps : List OP) → (t : RT) → (os : List OV) → (y : denR t) → {x : denR (opsRT ps t)} → castOs ps t os y = some x → ∀ (k : Nat) (o' : OV), (opsOV ps t x).1[k]? = some o' → ∃ (p : OP) (o : OV) (z : den p.ty), os[k]? = some o ∧ castO p o = some z ∧ o' = p.ov z
 | [], t, [], y, x, h => by
   intro k o' hk; simp [opsOV] at hk
 | [], _, _ :: _, _, _, h => by simp [castOs] at h
 | _ :: _, _, [], _, _, h => by simp [castOs] at h
 | p :: ps, t, o :: os, y, x, h => by
   unfold castOs at h
   cases h1 : castO p o with
   | none => simp [h1] at h
   | some a =>
     cases h2 : castOs ps t os y with
     | none => simp [h1, h2] at h
     | some z =>
       simp only [h1, h2] at h; have h : (a, z) = x := Option.some.inj h; subst h; intro k o' hk
       cases k with
       | zero =>
         have hk : some (p.ov a) = some o' := hk; simp only [Option.some.injEq] at hk; exact ⟨p, o, a, rfl, h1, hk.symm⟩
       | succ k =>
         have hk : (opsOV ps t z).1[k]? = some o' := hk; obtain ⟨p', o1, z', q1, q2, q3⟩ := castOs_at ps t os y h2 k o' hk; exact ⟨p', o1, z', by simpa using q1, q2, q3⟩
theorem castO_own {p : OP} {o : OV} {z : den p.ty} (h : castO p o = some z) {A : Arr} (he : p.ov z = .own A) : (∃ B, o = .own B ∧ A.r = B.r ∧ A.own = true ∧ A.xs.length = B.xs.length ∧ (B.own = true → A = B)) ∨ (o = .nils ∧ ∃ r d, A = { r := r, own := true, xs := ([] : List (denR r)), md := d }) := by
 cases p with
 | own r d =>
   injection he with he; subst he
   cases o with
   | own B =>
     have h : (bif B.md.is d then castL r B.xs else none) = some z := h; obtain ⟨hd, h⟩ := bif_some h; have hd := Md.is_iff.1 hd; obtain ⟨e, rfl⟩ := castL_some h; obtain ⟨r0, own0, xs0, md0⟩ := B; simp only at e hd; subst e hd; exact .inl ⟨_, rfl, rfl, rfl, rfl, fun ho => by simp only at ho; subst ho; rfl⟩
   | nils =>
     have h : ([] : List (denR r)) = z := Option.some.inj h; subst h; exact .inr ⟨rfl, r, d, rfl⟩
   | _ => cases h
 | int _ => cases he
 | bool => cases he
 | str => cases he
 | shr _ => cases he
 | rpt _ => cases he
 | fn _ _ => cases he
theorem castO_nonil {p : OP} (z : den p.ty) : p.ov z ≠ .nils := by
 cases p <;> (intro h; cases h)
theorem castA_ok {c : Cz} {w : World} {i : Nat} {lc : Nat → Loc} {p : AP} {t : RT} {av : AV} {y : denR t} {x : denR (p.rt t)} (h : castA p t av y = some x) : (p.av t x).2 = y ∧ ∀ v, HoldA c w i lc av v → HoldA c w i lc (p.av t x).1 v := by
 cases p with
 | val agg ps =>
   cases agg with
   | true =>
     cases av with
     | val agg' os =>
       cases agg' with
       | true =>
         have h : castOs ps t os y = some x := h; obtain ⟨g1, g2⟩ := castOs_ok (c := c) (w := w) (f := .pend i) ps t os y h; exact ⟨g1, fun v ⟨vs, hv, hl⟩ => ⟨vs, hv, g2 0 _ hl⟩⟩
       | false => cases h
     | _ => cases h
   | false =>
     cases av with
     | val agg' os =>
       cases agg' with
       | false =>
         have h : castOs ps t os y = some x := h; obtain ⟨g1, g2⟩ := castOs_ok (c := c) (w := w) (f := .pend i) ps t os y h; exact ⟨g1, fun v hl => g2 0 _ hl⟩
       | true => cases h
     | _ => cases h
 | io r d =>
   cases av with
   | io A =>
     have h : (bif A.md.is d then (match castL r A.xs with | some xs => some ((xs, y) : denR (.cons (.sl r) t)) | none => none) else none) = some x := h; obtain ⟨hd, h⟩ := bif_some h; have hd := Md.is_iff.1 hd
     cases hc : castL r A.xs with
     | none => rw [hc] at h; cases h
     | some xs =>
       rw [hc] at h
       cases h
       refine ⟨rfl, fun v hl => ?_⟩; obtain ⟨e, rfl⟩ := castL_some hc; obtain ⟨r0, own0, xs0, md0⟩ := A; simp only at e hd; subst e hd; have ho : own0 = true := hl.2.2.1; subst ho; exact hl
   | _ => cases h
 | box lent ps =>
   cases av with
   | box os =>
     have h : castOs ps t os y = some x := h; obtain ⟨g1, g2⟩ := castOs_ok (c := c) (w := w) (f := .pend i) ps t os y h; exact ⟨g1, fun v ⟨blk, vs, ty, q1, q2, q3, q4⟩ => ⟨blk, vs, ty, q1, q2, q3, g2 0 _ q4⟩⟩
   | _ => cases h
 | lend ps =>
   cases av with
   | lend os =>
     have h : castOs ps t os y = some x := h; obtain ⟨g1, g2⟩ := castOs_ok (c := c) (w := w) (f := .pend i) ps t os y h; refine ⟨g1, fun v ⟨vs, q1, q2, q3⟩ => ⟨vs, q1, g2 0 _ q2, fun j o u ho hu => ?_⟩⟩; obtain ⟨p, o0, z, k1, k2, rfl⟩ := castOs_at ps t os y h j o ho; have h0 := q3 j o0 u k1 hu; have hL := (HoldL.nthc os 0 _ q2).2 j o0 u k1 hu; unfold LocAt at h0 ⊢
     cases he : p.ov z with
     | nils => exact absurd he (castO_nonil z)
     | own A =>
       rcases castO_own k2 he with ⟨B, rfl, e1, e2, e3, e4⟩ | ⟨rfl, r, d, rfl⟩
       · have h0 : OwnAt c w (.pend i j) (lc j) B u := h0; have := e4 h0.2.2.1; subst this; exact h0
       · have h0 : lc j = .nil := h0; obtain ⟨l, hl, _⟩ := hL; injection hl with hl _; subst hl; show OwnAt c w (.pend i j) (lc j) _ _; rw [h0]; exact ⟨rfl, ⟨rfl, rfl⟩, rfl, rfl⟩
     | _ => trivial
   | _ => cases h
end Go.TM
namespace Go.TM
open Go Go.RowKit
theorem packL_ok {w0 : World} {mu : Mu} {c : Cz} {st : St} {a : Act} {w : World} (h : Rel w0 mu c st a w) {ρ : Lb → Option Lb} {f : Nat → Lb} : (ps : List OP) → (t : RT) → (cs : List CV) → (y : denR t) → (vs : List Value) → (j : Nat) → RelL c st w cs vs → {x : denR (opsRT ps t)} → {u : List (Option Lb)} → {r : List (Nat × Nat)} →
   packL st ps t cs y = some (x, u, r) → (opsOV ps t x).2 = y ∧ (∀ l ∈ somes u, l.real = true) ∧ ((∀ k l, nth u k = some (some l) → ρ l = some (f (j + k))) → (∀ p ∈ r, ρ (.sp p.1 p.2) = none) → HoldL (c.map ρ) w f j (opsOV ps t x).1 vs)
 | [], t, [], y, vs, j, hl, x, u, r, he => by
   have he : some (y, ([] : List (Option Lb)), ([] : List (Nat × Nat))) = some (x, u, r) := he; injection he with he; injection he with e1 e2; injection e2 with e2 e3; subst e1 e2 e3; have := hl.1; simp at this; exact ⟨rfl, by simp [somes], fun _ _ => List.length_eq_zero_iff.1 this.symm⟩
 | [], t, _ :: _, y, vs, j, hl, x, u, r, he => by simp [packL] at he
 | _ :: _, t, [], y, vs, j, hl, x, u, r, he => by simp [packL] at he
 | p :: ps, t, cx :: cs, y, vs, j, hl, x, u, r, he => by
   obtain ⟨v, l, rfl, hx, hl'⟩ := hl.cons'; unfold packL at he
   cases hc : expC st p.isOwn cx with
   | none => simp [hc] at he
   | some q1 =>
     obtain ⟨o, u1, r1⟩ := q1
     cases hq : packL st ps t cs y with
     | none => simp [hc, hq] at he
     | some q2 =>
       obtain ⟨z, us, rs⟩ := q2; simp only [hc, hq] at he
       cases ho : castO p o with
       | none => simp [ho] at he
       | some a1 =>
         simp only [ho] at he; injection he with he; injection he with e1 e2; injection e2 with e2 e3; subst e1 e2 e3; obtain ⟨g1, g2, g3⟩ := packL_ok h (ρ := ρ) (f := f) ps t cs y l (j + 1) hl' hq; refine ⟨g1, fun l' hm => ?_, fun hu hr => ?_⟩
         · rw [mem_somes] at hm; rcases List.mem_cons.1 hm with hm | hm
           · obtain ⟨s, k, rfl⟩ := expC_real hc l' hm.symm; rfl
           · exact g2 l' (mem_somes.2 hm)
         · have hrest := g3 (fun k' l' hk => by
             have := hu (k' + 1) l' hk
             rwa [show j + (k' + 1) = j + 1 + k' by omega] at this) (fun p hp => hr p (List.mem_append_right _ hp))
           have h1 := expC_ok h (f := f) (j := j) hx hc (fun l' hl' => hu 0 l' (by rw [hl']; rfl)) (fun p hp => hr p (List.mem_append_left _ hp)) hrest; exact castO_ok p o a1 ho (fun _ h => h) h1
def HoldSlots (c : Cz) (w : World) (lc : Nat → Nat → Loc) (a : Act) (k : Nat) (l : List (Option AV)) : Prop :=
 ∀ i av, l[i]? = some (some av) → HoldA c w (k + i) (lc (k + i)) av (a.eval (.tmp (k + i)))
theorem packA_ok {w0 : World} {mu : Mu} {c : Cz} {st : St} {a : Act} {w : World} (h : Rel w0 mu c st a w) (k : Nat) {p : AP} {t : RT} {V : V} {y : denR t} {v : Value} (hV : RelV c st w V v) {x : denR (p.rt t)} {u : List Lb} {r : List (Nat × Nat)} (he : packA st k p t V y = some (x, u, r)) :
   (p.av t x).2 = y ∧ (∀ l ∈ u, l.real = true) ∧ ∃ tb : List (Lb × Lb), tb.map (·.1) = u ∧ (∀ p ∈ tb, p.2.handed = true) ∧ ∀ ρ : Lb → Option Lb, (∀ p ∈ tb, ρ p.1 = some p.2) → (∀ p ∈ r, ρ (.sp p.1 p.2) = none) → HoldA (c.map ρ) w k (c.lc k) (p.av t x).1 v := by
 have vals : ∀ (ps : List OP) (cs : List CV) (x : denR (opsRT ps t)) (us : List (Option Lb)) (rs : List (Nat × Nat)) (vs : List Value), RelL c st w cs vs → packL st ps t cs y = some (x, us, rs) → (opsOV ps t x).2 = y ∧ (∀ l ∈ somes us, l.real = true) ∧
     ∀ ρ : Lb → Option Lb, (∀ p ∈ numb (.pend k) 0 us, ρ p.1 = some p.2) → (∀ p ∈ rs, ρ (.sp p.1 p.2) = none) → HoldL (c.map ρ) w (.pend k) 0 (opsOV ps t x).1 vs := by
   intro ps cs x us rs vs hl hq; refine ⟨(packL_ok h (ρ := fun _ => none) (f := .pend k) ps t cs y vs 0 hl hq).1, (packL_ok h (ρ := fun _ => none) (f := .pend k) ps t cs y vs 0 hl hq).2.1, fun ρ hp hr => (packL_ok h (ρ := ρ) (f := .pend k) ps t cs y vs 0 hl hq).2.2 (fun k' l hk => ?_) hr⟩; have := hp _ (numb_get (.pend k) 0 us k' l hk); simpa using this
 cases p with
 | val agg ps =>
   cases agg with
   | true =>
     cases V with
     | agg cs =>
       have he : (packL st ps t cs y).map (fun q => (q.1, somes q.2.1, q.2.2)) = some (x, u, r) := he
       cases hq : packL st ps t cs y with
       | none => rw [hq] at he; cases he
       | some q =>
         obtain ⟨z, us, rs⟩ := q; rw [hq] at he; injection he with he; injection he with e1 e2; injection e2 with e2 e3; subst e1 e2 e3; obtain ⟨vs, rfl, hl⟩ := hV; obtain ⟨g1, g2, g3⟩ := vals _ _ _ _ _ _ hl hq; exact ⟨g1, g2, tabArg k (.val true []) [] us, tabArg_fst _ _ _ _, tabArg_snd _ _ _ _, fun ρ hp hr => ⟨vs, rfl, g3 ρ (fun p hp' => hp p (by simpa [tabArg] using hp')) hr⟩⟩
     | one _ => cases he
     | tup _ => cases he
   | false =>
     cases V with
     | one cx =>
       have he : (packL st ps t [cx] y).map (fun q => (q.1, somes q.2.1, q.2.2)) = some (x, u, r) := he
       cases hq : packL st ps t [cx] y with
       | none => rw [hq] at he; cases he
       | some q =>
         obtain ⟨z, us, rs⟩ := q; rw [hq] at he; injection he with he; injection he with e1 e2; injection e2 with e2 e3; subst e1 e2 e3; obtain ⟨g1, g2, g3⟩ := vals _ _ _ _ _ [v] ⟨rfl, fun k y z hy hz => by
           cases k with
           | zero => simp at hy hz; subst hy hz; exact hV
           | succ k => simp at hy⟩ hq
         exact ⟨g1, g2, tabArg k (.val true []) [] us, tabArg_fst _ _ _ _, tabArg_snd _ _ _ _, fun ρ hp hr => g3 ρ (fun p hp' => hp p (by simpa [tabArg] using hp')) hr⟩
     | agg _ => cases he
     | tup _ => cases he
 | io rr d =>
   cases V with
   | one cx =>
     cases cx with
     | ref s j g vw =>
       cases vw with
       | full =>
         have he : (bif Nat.beq s k && (Nat.beq j 0 && Nat.beq g 1) then ((arr? st s j g).bind fun A => bif A.own && A.md.is d then (castL rr A.xs).map fun xs => ((xs, y), [Lb.sp s j], ([] : List (Nat × Nat))) else none) else none) = some (x, u, r) := he; obtain ⟨h1, he1⟩ := bif_some he; clear he; rw [Bool.and_eq_true, Bool.and_eq_true] at h1; have e1 := Nat.eq_of_beq_eq_true h1.1; have e2 := Nat.eq_of_beq_eq_true h1.2.1; subst e1 e2
         cases hA : arr? st s 0 g with
         | none => rw [hA] at he1; cases he1
         | some A =>
           rw [hA] at he1; obtain ⟨ho, he2⟩ := bif_some he1; rw [Bool.and_eq_true] at ho; have hd := Md.is_iff.1 ho.2; have ho := ho.1
           cases hc : castL rr A.xs with
           | none => rw [hc] at he2; cases he2
           | some xs =>
             rw [hc] at he2; injection he2 with he2; injection he2 with e1 e2; injection e2 with e2 e3; subst e1 e2 e3; refine ⟨rfl, by simp [Lb.real], [(.sp s 0, .pend s 0)], rfl, by simp [Lb.handed], fun ρ hp _ => ?_⟩; have ha := rel_arr h hA; have hs := hV.2.2 A hA; have hρ : ρ (.sp s 0) = some (.pend s 0) := hp (.sp s 0, .pend s 0) (by simp); obtain ⟨e, rfl⟩ := castL_some hc; obtain ⟨r0, own0, xs0, md0⟩ := A; simp only at e hd; subst e hd; have ho : own0 = true := by first | exact ho | exact ho.1
             subst ho; refine ⟨hV.1, hs, rfl, ?_⟩; unfold ArrOk at ha
             cases hlc : c.lc s 0 with
             | nil => rw [hlc] at ha; exact ha
             | «at» b off cap =>
               rw [hlc] at ha; obtain ⟨h0, h2, h3, h4⟩ := ha; exact ⟨(Cz.map_own h0).trans hρ, h2, h3, h4.map hρ⟩
       | «from» _ => cases he
       | sub _ _ => cases he
     | _ => cases he
   | agg _ => cases he
   | tup _ => cases he
 | box lent ps =>
   cases V with
   | one cx =>
     cases cx with
     | ptr b g off =>
       have he : (bif Nat.beq off 0 && (!lent || (Nat.beq b k && Nat.beq g 1)) then ((box? st b g).bind fun cs => (packL st ps t cs y).map fun q => (q.1, Lb.box b :: somes q.2.1, q.2.2)) else none) = some (x, u, r) := he; obtain ⟨h1, he1⟩ := bif_some he; clear he; rw [Bool.and_eq_true] at h1; have e1 := Nat.eq_of_beq_eq_true h1.1; subst e1
       cases hb : box? st b g with
       | none => rw [hb] at he1; cases he1
       | some cs =>
         rw [hb] at he1; simp only [Option.bind_some] at he1
         cases hq : packL st ps t cs y with
         | none => rw [hq] at he1; cases he1
         | some q =>
           obtain ⟨z, us, rs⟩ := q; rw [hq] at he1; injection he1 with he1; injection he1 with e1 e2; injection e2 with e2 e3; subst e1 e2 e3; obtain ⟨sl, k1, k2, k3⟩ := box?_some hb; obtain ⟨h1, vs, ty, h2, h3⟩ := h.boxes b sl cs k1 k3; obtain ⟨g1, g2, g3⟩ := vals _ _ _ _ _ _ h3 hq; refine ⟨g1, fun l hl => ?_, tabArg k (.box []) [.box b] us, by rw [tabArg_fst]; rfl, tabArg_snd _ _ _ _, fun ρ hp hr => ⟨c.bx b, vs, ty, hV.2.2 cs hb, ?_, h2, g3 ρ (fun p hp' => hp p (List.mem_append_right _ hp')) hr⟩⟩
           · rcases List.mem_cons.1 hl with rfl | hl
             · rfl
             · exact g2 l hl
           · exact (Cz.map_own h1).trans (hp (.box b, .pbox k) (by simp [tabArg]))
     | _ => cases he
   | agg _ => cases he
   | tup _ => cases he
 | lend ps => cases he
theorem packHead_ok {w0 : World} {mu : Mu} {c : Cz} {st : St} {a : Act} {w : World} (h : Rel w0 mu c st a w) : (l : List (Option AP)) → (k : Nat) → {x : denR (headRT l)} → {u : List Lb} → {r : List (Nat × Nat)} → packHead st k l = some (x, u, r) →
   (∀ l ∈ u, l.real = true) ∧ ∃ tb : List (Lb × Lb), tb.map (·.1) = u ∧ (∀ p ∈ tb, p.2.handed = true) ∧ ∀ ρ : Lb → Option Lb, (∀ p ∈ tb, ρ p.1 = some p.2) → (∀ p ∈ r, ρ (.sp p.1 p.2) = none) → HoldSlots (c.map ρ) w c.lc a k (heads l x)
 | [], k, x, u, r, he => by
   have he : some ((), ([] : List Lb), ([] : List (Nat × Nat))) = some (x, u, r) := he; injection he with he; injection he with _ e2; injection e2 with e2 e3; subst e2 e3; exact ⟨by simp, [], rfl, by simp, fun ρ _ _ i av hi => by simp [heads] at hi⟩
 | none :: l, k, x, u, r, he => by
   obtain ⟨g1, tb, g2, g3, g4⟩ := packHead_ok h l (k + 1) he; refine ⟨g1, tb, g2, g3, fun ρ hp hr i av hi => ?_⟩
   cases i with
   | zero => simp [heads] at hi
   | succ i =>
     have := g4 ρ hp hr i av (by simpa [heads] using hi)
     rwa [show k + 1 + i = k + (i + 1) by omega] at this
 | some p :: l, k, x, u, r, he => by
   unfold packHead at he
   cases h1 : packHead st (k + 1) l with
   | none => simp [h1] at he
   | some q1 =>
     obtain ⟨y, us, rs⟩ := q1; simp only [h1] at he
     cases h2 : packA st k p (headRT l) (getV st k) y with
     | none => simp [h2] at he
     | some q2 =>
       obtain ⟨x1, u1, r1⟩ := q2; simp only [h2] at he; injection he with he; injection he with e1 e2; injection e2 with e2 e3; subst e1 e2 e3; obtain ⟨g1, tb, g2, g3, g4⟩ := packHead_ok h l (k + 1) h1; obtain ⟨a1, a2, ta, a3, a4, a5⟩ := packA_ok h k (h.regs k) h2; refine ⟨fun l' hl => ?_, ta ++ tb, by simp [a3, g2], fun p hp => ?_, fun ρ hp hr i av hi => ?_⟩
       · rcases List.mem_append.1 hl with hl | hl
         · exact a2 l' hl
         · exact g1 l' hl
       · rcases List.mem_append.1 hp with hp | hp
         · exact a4 p hp
         · exact g3 p hp
       · cases i with
         | zero =>
           have hi : some (some (p.av (headRT l) x1).1) = some (some av) := hi; simp only [Option.some.injEq] at hi; subst hi; exact a5 ρ (fun p hp' => hp p (List.mem_append_left _ hp')) (fun p hp' => hr p (List.mem_append_left _ hp'))
         | succ i =>
           have hi : (heads l (p.av (headRT l) x1).2)[i]? = some (some av) := hi; rw [a1] at hi; have := g4 ρ (fun p hp' => hp p (List.mem_append_right _ hp')) (fun p hp' => hr p (List.mem_append_right _ hp')) i av hi
           rwa [show k + 1 + i = k + (i + 1) by omega] at this
end Go.TM
namespace Go.TM
open Go Go.RowKit
def AnFits (L : List (Option AV)) (lc : Nat → Nat → Loc) (a : Act) : Anc → Prop
 | .arr i j g W n l => g = 1 ∧ i < L.length ∧ ∀ av, L[i]? = some (some av) → (∃ A, av = .io A ∧ (j = 0 → A.r.width = W ∧ A.xs.length = n ∧ lc i 0 = l)) ∨ ∃ os, av = .lend os ∧ ∀ A, os[j]? = some (.own A) → A.r.width = W ∧ A.xs.length = n ∧ lc i j = l
 | .box i g blk => g = 1 ∧ i < L.length ∧ ∀ os, L[i]? = some (some (.box os)) → a.eval (.tmp i) = .pointer (some ⟨blk, 0, none⟩)
def turnIn : Lb → Lb
 | .pend i j => .sp i j
 | .pbox i => .box i
 | l => l
structure SlotAt (c : Cz) (w : World) (k : Nat) (av : Option AV) (u : Value) (lio : Nat → Loc) (blk : Nat) (lcs : Nat → Loc) : Prop where
 arr : ∀ j A, nth (slotOf k av).arrs j = some (some A) → ∃ v, OwnAt c w (.pend k j) (lcs j) A v
 reg : ∀ (c2 : Cz) (st2 : St), (∀ b, c.ok b → c2.ok b) → c2.bx k = blk → c2.lc k = lcs → nth st2 k = some (slotOf k av) → RelV c2 st2 w (slotOf k av).v u
 box : ∀ cs, (slotOf k av).box = some cs → u = .pointer (some ⟨blk, 0, none⟩) ∧ c.own blk = some (.pbox k) ∧ ∃ vs ty, w.heap[blk]? = some (.cells vs ty (0, 0)) ∧
   ∀ (c2 : Cz) (st2 : St), (∀ b, c.ok b → c2.ok b) → c2.lc k = lcs → nth st2 k = some (slotOf k av) → RelL c2 st2 w cs vs.toList
 io : ∀ A, av = some (.io A) → lcs 0 = lio 0
 lend : ∀ os, av = some (.lend os) → lcs = lio
theorem arr?_slot {st : St} {k j : Nat} {av : Option AV} {A : Arr} (h : nth st k = some (slotOf k av)) (hA : arr? st k j 1 = some A) : nth (slotOf k av).arrs j = some (some A) := by
 obtain ⟨sl, h1, _, h3⟩ := arr?_some hA; rw [h] at h1; cases h1; exact h3
theorem genA_slot {st : St} {k : Nat} {av : Option AV} (h : nth st k = some (slotOf k av)) : genA st k = 1 := by
 unfold genA; rw [h]
 cases av with
 | none => rfl
 | some av => cases av with
   | val agg os => cases agg <;> rfl
   | io A => rfl
   | box os => rfl
   | lend os => rfl
theorem genB_slot {st : St} {k : Nat} {av : Option AV} (h : nth st k = some (slotOf k av)) : genB st k = 1 := by
 unfold genB; rw [h]
 cases av with
 | none => rfl
 | some av => cases av with
   | val agg os => cases agg <;> rfl
   | io A => rfl
   | box os => rfl
   | lend os => rfl
theorem nth_arrs : (os : List OV) → (j : Nat) → {A : Arr} → nth (arrsOfOV os) j = some (some A) → os[j]? = some (.own A)
 | [], _, _, h => by simp [arrsOfOV] at h
 | o :: os, 0, A, h => by
   simp only [arrsOfOV, nth, Option.some.injEq] at h
   cases o with
   | own B => injection h with h; subst h; rfl
   | _ => cases h
 | o :: os, j + 1, A, h => by
   have := nth_arrs os j (A := A) h; simpa using this
theorem cellOf_at {d g : Nat} : (os : List OV) → (j k : Nat) → (o : OV) → os[k]? = some o → ∃ x, cellOfOV d g (j + k) [o] = [x] ∧ (cellOfOV d g j os)[k]? = some x
 | [], _, _, _, h => by simp at h
 | o :: os, j, 0, o', h => by
   simp only [List.getElem?_cons_zero, Option.some.injEq] at h; subst h
   cases o <;> exact ⟨_, rfl, rfl⟩
 | o :: os, j, k + 1, o', h => by
   obtain ⟨x, h1, h2⟩ := cellOf_at (d := d) (g := g) os (j + 1) k o' (by simpa using h); rw [show j + 1 + k = j + (k + 1) by omega] at h1; refine ⟨x, h1, ?_⟩
   cases o <;> simpa [cellOfOV] using h2
theorem cellOf_len {d g : Nat} : (os : List OV) → (j : Nat) → (cellOfOV d g j os).length = os.length
 | [], _ => rfl
 | o :: os, j => by cases o <;> simp [cellOfOV, cellOf_len os (j + 1)]
theorem HoldL.cells_at {c : Cz} {w : World} {f : Nat → Lb} {os : List OV} {vs : List Value} (h : HoldL c w f 0 os vs) (lcs : Nat → Loc) (ho : ∀ k A u, os[k]? = some (.own A) → vs[k]? = some u → ∃ l, OwnAt c w l (lcs k) A u)
   (c2 : Cz) (st2 : St) (d g : Nat) (hok : ∀ b, c.ok b → c2.ok b) (hlc : ∀ k, c2.lc d k = lcs k) (harr : ∀ k A, arr? st2 d k g = some A → os[k]? = some (.own A)) (hg : g ≤ genA st2 d) : RelL c2 st2 w (cellOfOV d g 0 os) vs := by
 obtain ⟨h1, h2⟩ := HoldL.nthc os 0 vs h; refine ⟨by rw [cellOf_len, h1], fun k x v hx hv => ?_⟩; have hlt : k < os.length := by rw [← h1]; exact (List.getElem?_eq_some_iff.1 hv).1
 have hok' : os[k]? = some os[k] := List.getElem?_eq_getElem hlt; obtain ⟨y, q1, q2⟩ := cellOf_at (d := d) (g := g) os 0 k _ hok'; rw [q2] at hx
 cases hx
 have hL := h2 k _ v hok' hv; rw [Nat.zero_add] at q1; generalize os[k] = o at *
 cases o with
 | own A =>
   simp only [cellOfOV, List.cons.injEq, and_true] at q1; subst q1; obtain ⟨l, hO⟩ := ho k A v hok' hv; refine ⟨hO.1, hg, fun A' hA' => ?_⟩; have := harr k A' hA'; rw [hok'] at this
   cases this
   rw [hlc]; exact hO.2.1
 | shr r xs =>
   simp only [cellOfOV, List.cons.injEq, and_true] at q1; subst q1; obtain ⟨v', l, e, h3, _⟩ := hL
   cases e
   exact RepTy.stays ⟨Nat.le_refl _, fun _ _ _ => rfl, fun b _ hb => hok b hb⟩ _ _ _ h3
 | rpt r xs =>
   simp only [cellOfOV, List.cons.injEq, and_true] at q1; subst q1; obtain ⟨v', l, e, ⟨b, oo, e1, e2, e3, e4⟩, _⟩ := hL
   cases e
   exact ⟨b, oo, e1, e2, hok b e3, fun x hx => RepR.stays ⟨Nat.le_refl _, fun _ _ _ => rfl, fun b _ hb => hok b hb⟩ _ _ _ _ rfl (e4 x hx)⟩
 | fn fg r xs =>
   simp only [cellOfOV, List.cons.injEq, and_true] at q1; subst q1; obtain ⟨v', l, e, h3, _⟩ := hL
   cases e
   exact h3.stays ⟨Nat.le_refl _, fun _ _ _ => rfl, fun b _ hb => hok b hb⟩
 | _ =>
   simp only [cellOfOV, List.cons.injEq, and_true] at q1; subst q1; obtain ⟨l, e, _⟩ := hL
   cases e
   rfl
theorem slot_at {c : Cz} {w : World} {k : Nat} {lio : Nat → Loc} {av : Option AV} {u : Value} (h : ∀ v, av = some v → HoldA c w k lio v u) : ∃ blk lcs, SlotAt c w k av u lio blk lcs := by
 cases av with
 | none => exact ⟨0, fun _ => .nil, fun j A hA => by simp [slotOf, Sl.blank] at hA, fun c2 st2 _ _ _ _ => trivial, fun cs hcs => by simp [slotOf, Sl.blank] at hcs, fun A hA => (by cases hA), fun A hA => (by cases hA)⟩
 | some av =>
   have h := h av rfl
   cases av with
   | val agg os =>
     cases agg with
     | true =>
       obtain ⟨vs, rfl, hl⟩ := h; obtain ⟨lcs, g1, g2⟩ := HoldL.cells os 0 _ hl; simp only [Nat.zero_add] at g1 g2; refine ⟨0, lcs, fun j A hA => g1 j A hA, fun c2 st2 hok _ hlc hn => ⟨vs, rfl, ?_⟩, fun cs hcs => by simp [slotOf] at hcs, fun A hA => (by cases hA), fun A hA => (by cases hA)⟩; exact g2 c2 st2 k 1 hok (fun j _ => by rw [hlc]) (fun j A _ hA => arr?_slot hn hA) (by rw [genA_slot hn]; exact Nat.le_refl _)
     | false =>
       have hl : HoldL c w (.pend k) 0 os [u] := h; obtain ⟨lcs, g1, g2⟩ := HoldL.cells os 0 _ hl; simp only [Nat.zero_add] at g1 g2; refine ⟨0, lcs, fun j A hA => g1 j A hA, fun c2 st2 hok _ hlc hn => ?_, fun cs hcs => by simp [slotOf] at hcs, fun A hA => (by cases hA), fun A hA => (by cases hA)⟩; have hR := g2 c2 st2 k 1 hok (fun j _ => by rw [hlc]) (fun j A _ hA => arr?_slot hn hA) (by rw [genA_slot hn]; exact Nat.le_refl _); show RelV c2 st2 w (match cellOfOV k 1 0 os with | [c] => .one c | _ => .one .bad) u; have h1 := hR.1
       cases hc : cellOfOV k 1 0 os with
       | nil => trivial
       | cons x l => cases l with
         | nil => rw [hc] at hR; exact hR.2 0 x u rfl rfl
         | cons _ _ => trivial
   | io A =>
     have hO : OwnAt c w (.pend k 0) (lio 0) A u := h; refine ⟨0, lio, fun j A' hA' => ?_, fun c2 st2 hok _ hlc hn => ?_, fun cs hcs => by simp [slotOf] at hcs, fun A hA => rfl, fun A hA => by cases hA⟩
     · cases j with
       | zero => simp [slotOf, nth] at hA'; subst hA'; exact ⟨u, hO⟩
       | succ j => simp [slotOf, nth] at hA'
     · refine ⟨hO.1, by rw [genA_slot hn]; exact Nat.le_refl _, fun A' hA' => ?_⟩; have := arr?_slot hn hA'; simp [slotOf, nth] at this; subst this; rw [hlc]; exact hO.2.1
   | lend os =>
     obtain ⟨vs, rfl, hl, hloc⟩ := h; have hown : ∀ j A u, os[j]? = some (.own A) → vs.toList[j]? = some u → OwnAt c w (.pend k j) (lio j) A u := fun j A u h1 h2 => hloc j _ u h1 h2
     obtain ⟨n1, _⟩ := HoldL.nthc os 0 _ hl; refine ⟨0, lio, fun j A' hA' => ?_, fun c2 st2 hok _ hlc hn => ⟨vs, rfl, ?_⟩, fun cs hcs => by simp [slotOf] at hcs, fun A hA => (by cases hA), fun os' _ => rfl⟩
     · have hj := nth_arrs os j hA'; have hlt : j < vs.toList.length := by rw [n1]; exact (List.getElem?_eq_some_iff.1 hj).1
       exact ⟨_, hown j A' _ hj (List.getElem?_eq_getElem hlt)⟩
     · exact HoldL.cells_at hl lio (fun j A u h1 h2 => ⟨_, hown j A u h1 h2⟩) c2 st2 k 1 hok (fun j => by rw [hlc]) (fun j A hA => nth_arrs os j (arr?_slot hn hA)) (by rw [genA_slot hn]; exact Nat.le_refl _)
   | box os =>
     obtain ⟨blk, vs, ty, h1, h2, h3, hl⟩ := h; obtain ⟨lcs, g1, g2⟩ := HoldL.cells os 0 _ hl; simp only [Nat.zero_add] at g1 g2; refine ⟨blk, lcs, fun j A hA => g1 j A hA, fun c2 st2 hok hbx hlc hn => ⟨by rw [h1]; rfl, by rw [genB_slot hn]; exact Nat.le_refl _, fun cs _ => by rw [hbx]; exact h1⟩, fun cs hcs => ⟨h1, h2, vs, ty, h3, fun c2 st2 hok hlc hn => ?_⟩, fun A hA => (by cases hA), fun A hA => (by cases hA)⟩; simp only [slotOf, Option.some.injEq] at hcs; subst hcs; exact g2 c2 st2 k 1 hok (fun j _ => by rw [hlc]) (fun j A _ hA => arr?_slot hn hA) (by rw [genA_slot hn]; exact Nat.le_refl _)
theorem Rel.scratch {w0 : World} {mu : Mu} {c : Cz} {a : Act} {w : World} {L : List (Option AV)} {lc : Nat → Nat → Loc} (hb : Bas w0 mu c w) (hd : a.defers = []) (hL : HoldSlots c w lc a 0 L) (hA : ∀ p ∈ mu.an, AnFits L lc a p) : ∃ c', Rel w0 mu c' (slots 0 L) a w := by
 have hsl : ∀ k, ∃ q : Nat × (Nat → Loc), SlotAt c w k ((L[k]?).getD none) (a.eval (.tmp k)) (lc k) q.1 q.2 := by
   intro k; obtain ⟨blk, lcs, h⟩ := slot_at (c := c) (w := w) (k := k) (lio := lc k) (av := (L[k]?).getD none) (u := a.eval (.tmp k)) (fun v hv => by
     have := hL k v (by
       cases hq : L[k]? with
       | none => rw [hq] at hv; cases hv
       | some o => rw [hq] at hv; simp at hv; rw [hv])
     simpa using this)
   exact ⟨(blk, lcs), h⟩
 obtain ⟨q, hq⟩ := Classical.axiomOfChoice hsl; have hn : ∀ k, nth (slots 0 L) k = (L[k]?).map (slotOf k) := fun k => by have := nth_slots L 0 k; simpa using this
 have hn' : ∀ k sl, nth (slots 0 L) k = some sl → ∃ o, L[k]? = some o ∧ sl = slotOf k o ∧ nth (slots 0 L) k = some (slotOf k ((L[k]?).getD none)) ∧ (L[k]?).getD none = o := by
   intro k sl h; rw [hn] at h
   cases ho : L[k]? with
   | none => rw [ho] at h; cases h
   | some o =>
     rw [ho] at h
     cases h
     refine ⟨o, rfl, rfl, ?_, rfl⟩; rw [hn, ho]; rfl
 let c' := c.turn turnIn (fun k => (q k).1) (fun k => (q k).2)
 have hok : ∀ b, c.ok b → c'.ok b := fun b hb => Cz.turn_ok.2 hb
 refine ⟨c', fun t => ?_, fun s sl cs hs hbx => ?_, fun s j sl A hs hA' => ?_, fun b l hl => ?_, fun b hlt hl => hb.free b hlt (by simpa [c', Cz.turn] using hl), hb.kept, hb.old, hd, fun p hp => ?_⟩
 · cases hs : nth (slots 0 L) t with
   | none =>
     have : getV (slots 0 L) t = .one .bad := by unfold getV; rw [hs]
     rw [this]; trivial
   | some sl =>
     obtain ⟨o, h1, rfl, h3, h4⟩ := hn' t sl hs; have : getV (slots 0 L) t = (slotOf t ((L[t]?).getD none)).v := by unfold getV; rw [h3]
     rw [this]; exact (hq t).reg c' (slots 0 L) hok rfl rfl h3
 · obtain ⟨o, h1, rfl, h3, h4⟩ := hn' s sl hs; rw [← h4] at hbx; obtain ⟨g1, g2, vs, ty, g3, g4⟩ := (hq s).box cs hbx; refine ⟨?_, vs, ty, g3, g4 c' (slots 0 L) hok rfl h3⟩; show (c.own (q s).1).map turnIn = _; rw [g2]; rfl
 · obtain ⟨o, h1, rfl, h3, h4⟩ := hn' s sl hs; rw [← h4] at hA'; obtain ⟨v, hv⟩ := (hq s).arr j A hA'; exact hv.arr rfl rfl
 · simp only [c', Cz.turn, Option.map_eq_some_iff] at hl; obtain ⟨k, hk, e⟩ := hl; obtain ⟨h1, h2⟩ := hb.owned b k hk; refine ⟨h1, h2.imp (fun e2 => ?_) id⟩; subst e2; rw [← e]; rfl
 · have hf := hA p hp
   cases p with
   | arr i j g W n l =>
     obtain ⟨rfl, hi, hav⟩ := hf; have hs : nth (slots 0 L) i = some (slotOf i ((L[i]?).getD none)) := by rw [hn]; simp [List.getElem?_eq_getElem hi]
     refine ⟨by rw [genA_slot hs]; exact Nat.le_refl _, fun A hA' => ?_⟩; have h3 := arr?_slot hs hA'
     cases ho : L[i]? with
     | none => rw [ho] at h3; simp [slotOf, Sl.blank] at h3
     | some o => cases o with
       | none => rw [ho] at h3; simp [slotOf, Sl.blank] at h3
       | some av =>
         rcases hav av ho with ⟨A0, rfl, h5⟩ | ⟨os, rfl, h5⟩
         case inr =>
           rw [ho] at h3; obtain ⟨e1, e2, e3⟩ := h5 A (nth_arrs os j h3); refine ⟨e1, e2, ?_⟩; rw [← e3]; have := (hq i).lend os (by rw [ho]; rfl); show (q i).2 j = lc i j; rw [this]
         rw [ho] at h3
         cases j with
         | zero =>
           simp [slotOf, nth] at h3; subst h3; obtain ⟨e1, e2, e3⟩ := h5 rfl; exact ⟨e1, e2, ((hq i).io A0 (by rw [ho]; rfl)).trans e3⟩
         | succ j => simp [slotOf, nth] at h3
   | box i g blk =>
     obtain ⟨rfl, hi, hav⟩ := hf; have hs : nth (slots 0 L) i = some (slotOf i ((L[i]?).getD none)) := by rw [hn]; simp [List.getElem?_eq_getElem hi]
     refine ⟨by rw [genB_slot hs]; exact Nat.le_refl _, fun cs hcs => ?_⟩; obtain ⟨sl, k1, k2, k3⟩ := box?_some hcs; rw [hs] at k1; cases k1; obtain ⟨g1, _⟩ := (hq i).box cs k3; have hos : ∃ os, L[i]? = some (some (.box os)) := by
       cases ho : L[i]? with
       | none => rw [ho] at k3; simp [slotOf, Sl.blank] at k3
       | some o => cases o with
         | none => rw [ho] at k3; simp [slotOf, Sl.blank] at k3
         | some av => cases av with
           | val agg os => rw [ho] at k3; cases agg <;> simp [slotOf] at k3
           | io A => rw [ho] at k3; simp [slotOf] at k3
           | lend os => rw [ho] at k3; simp [slotOf] at k3
           | box os => exact ⟨os, rfl⟩
     obtain ⟨os, hos⟩ := hos; have := hav os hos; rw [this] at g1; injection g1 with g1; injection g1 with g1; injection g1 with g1; exact g1.symm
end Go.TM
namespace Go.TM
open Go Go.RowKit
inductive Src where
 | tmp (t : Nat)
 | cell (t : Nat)
 | ptr (t : Nat)  -- the struct behind a pointer, which is handed back
structure RP where
 src : Src
 agg : Bool
 ps : List OP
def resRT : List RP → RT → RT
 | [], t => t
 | r :: rs, t => opsRT r.ps (resRT rs t)
def lendRT : List OP → RT → RT
 | [], t => t
 | .own r _ :: ps, t => .cons (.sl r) (lendRT ps t)
 | .int _ :: ps, t => lendRT ps t
 | .bool :: ps, t => lendRT ps t
 | .str :: ps, t => lendRT ps t
 | .shr _ :: ps, t => lendRT ps t
 | .rpt _ :: ps, t => lendRT ps t
 | .fn _ _ :: ps, t => lendRT ps t
def extRT : List AP → RT
 | [] => .nil
 | .val _ _ :: l => extRT l
 | .io r _ :: l => .cons (.sl r) (extRT l)
 | .box _ ps :: l => opsRT ps (extRT l)
 | .lend ps :: l => lendRT ps (extRT l)
def RP.cells (st : St) (r : RP) : Option (List CV) :=
 match r.src with
 | .tmp t => match getV st t with
   | .agg cs => bif r.agg then some cs else none
   | .one c => bif r.agg then none else some [c]
   | .tup _ => none
 | .cell t => match getV st t with
   | .one (.ptr b g off) => bif Nat.beq off 0 then box? st b g else none
   | _ => none
 | .ptr t => match getV st t with
   | .one (.ptr b g off) => bif Nat.beq off 0 then box? st b g else none
   | _ => none
def RP.lab (st : St) (r : RP) : List (Option Lb) :=
 match r.src with
 | .ptr t => (match getV st t with | .one (.ptr b _ _) => [some (.box b)] | _ => [])
 | _ => []
def packRs (st : St) : (rs : List RP) → (t : RT) → denR t → Option (denR (resRT rs t) × List (Option Lb) × List (Nat × Nat))
 | [], _, y => some (y, [], [])
 | r :: rs, t, y => (r.cells st).bind fun cs => (packRs st rs t y).bind fun q => (packL st r.ps (resRT rs t) cs q.1).map fun p => (p.1, r.lab st ++ (p.2.1 ++ q.2.1), p.2.2 ++ q.2.2)
def packLend (st : St) (i : Nat) : (j : Nat) → (ps : List OP) → (t : RT) → denR t → Option (denR (lendRT ps t) × List Lb)
 | _, [], _, y => some (y, [])
 | j, .own r d :: ps, t, y => (packLend st i (j + 1) ps t y).bind fun q => (arr? st i j 1).bind fun A => bif A.own && A.md.is d then (castL r A.xs).map fun xs => ((xs, q.1), .sp i j :: q.2) else none
 | j, .int _ :: ps, t, y => packLend st i (j + 1) ps t y
 | j, .bool :: ps, t, y => packLend st i (j + 1) ps t y
 | j, .str :: ps, t, y => packLend st i (j + 1) ps t y
 | j, .shr _ :: ps, t, y => packLend st i (j + 1) ps t y
 | j, .rpt _ :: ps, t, y => packLend st i (j + 1) ps t y
 | j, .fn _ _ :: ps, t, y => packLend st i (j + 1) ps t y
def packXs (st : St) : (i : Nat) → (ps : List AP) → Option (denR (extRT ps) × List Lb × List (Nat × Nat))
 | _, [] => some ((), [], [])
 | i, .val _ _ :: l => packXs st (i + 1) l
 | i, .io r d :: l => (packXs st (i + 1) l).bind fun q => (packA st i (.io r d) (extRT l) (.one (.ref i 0 1 .full)) q.1).map fun p => (p.1, p.2.1 ++ q.2.1, p.2.2 ++ q.2.2)
 | i, .box _ ps :: l => (packXs st (i + 1) l).bind fun q => (packA st i (.box true ps) (extRT l) (.one (.ptr i 1 0)) q.1).map fun p => (p.1, p.2.1 ++ q.2.1, p.2.2 ++ q.2.2)
 | i, .lend ps :: l => (packXs st (i + 1) l).bind fun q => (packLend st i 0 ps (extRT l) q.1).map fun p => (p.1, p.2 ++ q.2.1, q.2.2)
def finK (rs : List RP) (ps : List AP) : Ex → St → Option (denR (resRT rs (extRT ps)))
 | .exit _, _ => none
 | _, st => (packXs st 0 ps).bind fun x => (packRs st rs (extRT ps) x.1).bind fun q => bif noTwice (somes q.2.1 ++ x.2.1) && apart (somes q.2.1 ++ x.2.1) (q.2.2 ++ x.2.2) then some q.1 else none
def RP.rv (r : RP) (os : List OV) : RV :=
 match r.src with
 | .ptr _ => .ptr os
 | _ => match r.agg, os with
   | false, [o] => .one o
   | _, os => .agg os
def outsOf : (rs : List RP) → (t : RT) → denR (resRT rs t) → List RV × denR t
 | [], _, x => ([], x)
 | r :: rs, t, x => (r.rv (opsOV r.ps (resRT rs t) x).1 :: (outsOf rs t (opsOV r.ps (resRT rs t) x).2).1, (outsOf rs t (opsOV r.ps (resRT rs t) x).2).2)
def lendX : (ps : List OP) → (t : RT) → denR (lendRT ps t) → List (Option Arr) × denR t
 | [], _, x => ([], x)
 | .own r d :: ps, t, x => (some { r := r, own := true, xs := x.1, md := d } :: (lendX ps t x.2).1, (lendX ps t x.2).2)
 | .int _ :: ps, t, x => (none :: (lendX ps t x).1, (lendX ps t x).2)
 | .bool :: ps, t, x => (none :: (lendX ps t x).1, (lendX ps t x).2)
 | .str :: ps, t, x => (none :: (lendX ps t x).1, (lendX ps t x).2)
 | .shr _ :: ps, t, x => (none :: (lendX ps t x).1, (lendX ps t x).2)
 | .rpt _ :: ps, t, x => (none :: (lendX ps t x).1, (lendX ps t x).2)
 | .fn _ _ :: ps, t, x => (none :: (lendX ps t x).1, (lendX ps t x).2)
def extsOf : (ps : List AP) → denR (extRT ps) → List XV
 | [], _ => []
 | .val _ _ :: l, x => extsOf l x
 | .io r d :: l, x => .io { r := r, own := true, xs := x.1, md := d } :: extsOf l x.2
 | .box _ ps :: l, x => .box (opsOV ps (extRT l) x).1 :: extsOf l (opsOV ps (extRT l) x).2
 | .lend ps :: l, x => .lend (lendX ps (extRT l) x).1 :: extsOf l (lendX ps (extRT l) x).2
def semOf (ps : List AP) (rs : List RP) (t : denR (headRT (ps.map some)) → Option (denR (resRT rs (extRT ps)))) : Sem1 := fun avs =>
 match castAs ps avs with
 | some x => some { r := resRT rs (extRT ps), o := t x, res := fun y => { outs := (outsOf rs (extRT ps) y).1, exts := extsOf ps (outsOf rs (extRT ps) y).2 } }
 | none => none
theorem packLend_ok {st : St} {i : Nat} : (ps : List OP) → (j : Nat) → (t : RT) → (y : denR t) → {x : denR (lendRT ps t)} → {u : List Lb} → packLend st i j ps t y = some (x, u) → (lendX ps t x).2 = y ∧ (∀ l ∈ u, ∃ k, l = .sp i k) ∧
   ∀ (k : Nat) (r : RT) (d : Md), ps[k]? = some (.own r d) → ∃ A xs, arr? st i (j + k) 1 = some A ∧ A.own = true ∧ A.md = d ∧ castL r A.xs = some xs ∧ nth (lendX ps t x).1 k = some (some { r := r, own := true, xs := xs, md := d }) ∧ .sp i (j + k) ∈ u
 | [], j, t, y, x, u, h => by
   injection h with h; injection h with e1 e2; subst e1 e2; exact ⟨rfl, by simp, fun k r d hk => by simp at hk⟩
 | .own r d :: ps, j, t, y, x, u, h => by
   unfold packLend at h; obtain ⟨q, hq, h⟩ := Option.bind_eq_some_iff.1 h; obtain ⟨A, hA, h⟩ := Option.bind_eq_some_iff.1 h; obtain ⟨ho, h⟩ := bif_some h; rw [Bool.and_eq_true] at ho; obtain ⟨xs, hxs, h⟩ := Option.map_eq_some_iff.1 h; injection h with e1 e2; subst e1 e2; obtain ⟨z, us⟩ := q; obtain ⟨g1, g2, g3⟩ := packLend_ok ps (j + 1) t y hq; refine ⟨g1, fun l hl => ?_, fun k r' d' hk => ?_⟩
   · rcases List.mem_cons.1 hl with rfl | hl
     · exact ⟨j, rfl⟩
     · exact g2 l hl
   · cases k with
     | zero =>
       simp only [List.getElem?_cons_zero, Option.some.injEq, OP.own.injEq] at hk; obtain ⟨rfl, rfl⟩ := hk; exact ⟨A, xs, hA, ho.1, Md.is_iff.1 ho.2, hxs, rfl, List.mem_cons_self⟩
     | succ k =>
       obtain ⟨A', xs', k1, k2, kd, k3, k4, k5⟩ := g3 k r' d' (by simpa using hk); rw [show j + 1 + k = j + (k + 1) by omega] at k1 k5; exact ⟨A', xs', k1, k2, kd, k3, k4, List.mem_cons_of_mem _ k5⟩
 | .int _ :: ps, j, t, y, x, u, h => packLend_skip (packLend_ok ps (j + 1) t y h) (by simp) (fun k => rfl)
 | .bool :: ps, j, t, y, x, u, h => packLend_skip (packLend_ok ps (j + 1) t y h) (by simp) (fun k => rfl)
 | .str :: ps, j, t, y, x, u, h => packLend_skip (packLend_ok ps (j + 1) t y h) (by simp) (fun k => rfl)
 | .shr _ :: ps, j, t, y, x, u, h => packLend_skip (packLend_ok ps (j + 1) t y h) (by simp) (fun k => rfl)
 | .rpt _ :: ps, j, t, y, x, u, h => packLend_skip (packLend_ok ps (j + 1) t y h) (by simp) (fun k => rfl)
 | .fn _ _ :: ps, j, t, y, x, u, h => packLend_skip (packLend_ok ps (j + 1) t y h) (by simp) (fun k => rfl)
where
 packLend_skip {st : St} {i j : Nat} {p : OP} {ps : List OP} {D : Type} {y z : D} {L L' : List (Option Arr)} {u : List Lb} (h : z = y ∧ (∀ l ∈ u, ∃ k, l = .sp i k) ∧ ∀ (k : Nat) (r : RT) (d : Md), ps[k]? = some (.own r d) → ∃ A xs, arr? st i (j + 1 + k) 1 = some A ∧ A.own = true ∧ A.md = d ∧ castL r A.xs = some xs ∧ nth L k = some (some { r := r, own := true, xs := xs, md := d }) ∧ .sp i (j + 1 + k) ∈ u)
     (hp : ∀ r d, p ≠ .own r d) (hL : ∀ k, nth L' (k + 1) = nth L k) : z = y ∧ (∀ l ∈ u, ∃ k, l = .sp i k) ∧ ∀ (k : Nat) (r : RT) (d : Md), (p :: ps)[k]? = some (.own r d) → ∃ A xs, arr? st i (j + k) 1 = some A ∧ A.own = true ∧ A.md = d ∧ castL r A.xs = some xs ∧ nth L' k = some (some { r := r, own := true, xs := xs, md := d }) ∧ .sp i (j + k) ∈ u := by
   obtain ⟨h1, h2, h3⟩ := h; refine ⟨h1, h2, fun k r d hk => ?_⟩
   cases k with
   | zero =>
     simp only [List.getElem?_cons_zero, Option.some.injEq] at hk; exact absurd hk (hp r d)
   | succ k =>
     obtain ⟨A', xs', k1, k2, kd, k3, k4, k5⟩ := h3 k r d (by simpa using hk); rw [show j + 1 + k = j + (k + 1) by omega] at k1 k5; exact ⟨A', xs', k1, k2, kd, k3, by rw [hL]; exact k4, k5⟩
theorem packL_len {st : St} : (ps : List OP) → (t : RT) → (cs : List CV) → (y : denR t) → {x : denR (opsRT ps t)} → {u : List (Option Lb)} → {r : List (Nat × Nat)} → packL st ps t cs y = some (x, u, r) → u.length = ps.length ∧ cs.length = ps.length ∧ (opsOV ps t x).1.length = ps.length
 | [], t, [], y, x, u, r, h => by
   injection h with h; injection h with e1 e2; injection e2 with e2 e3; subst e1 e2 e3; exact ⟨rfl, rfl, rfl⟩
 | [], t, _ :: _, y, x, u, r, h => by simp [packL] at h
 | _ :: _, t, [], y, x, u, r, h => by simp [packL] at h
 | p :: ps, t, c :: cs, y, x, u, r, h => by
   unfold packL at h
   cases hc : expC st p.isOwn c with
   | none => simp [hc] at h
   | some q1 =>
     obtain ⟨o, u1, r1⟩ := q1
     cases hq : packL st ps t cs y with
     | none => simp [hc, hq] at h
     | some q2 =>
       obtain ⟨z, us, rs⟩ := q2; simp only [hc, hq] at h
       cases ho : castO p o with
       | none => simp [ho] at h
       | some a1 =>
         simp only [ho] at h; injection h with h; injection h with e1 e2; injection e2 with e2 e3; subst e1 e2 e3; obtain ⟨g1, g2, g3⟩ := packL_len ps t cs y hq; exact ⟨by simp [g1], by simp [g2], by simp [opsOV, g3]⟩
def resVal (T : Tab) (fr : Array Value) : ResultVar → RP → Prop
 | .tmp t, r => r.src = .tmp t ∨ r.src = .ptr t
 | .cell t ty, r => r.src = .cell t ∧ T.cells ty = some r.ps.length ∧ T.agg ty = r.agg
def oneRes (tm : Array Value) : ResultVar → Sem Value
 | .tmp t => pure (tm.getD t undef)
 | .cell a t => do loadVar t (← asAddr (tm.getD a undef))
theorem RP.cells_ok {P : Program} {T : Tab} (hT : TabOk P T) {w0 : World} {mu : Mu} {c : Cz} {st : St} {a : Act} {w : World} (h : Rel w0 mu c st a w) {r : RP} {rv : ResultVar} (hr : resVal T a.tmps rv r) {cs : List CV} (hc : r.cells st = some cs) (hn : cs.length = r.ps.length) :
   ∃ vs v, RelL c st w cs vs ∧ (oneRes a.tmps rv).run P w = .ok v w ∧ (((∀ t, r.src ≠ .ptr t) ∧ ((r.agg = true ∧ v = .agg vs.toArray) ∨ (r.agg = false ∧ (vs = [v])))) ∨
     (∃ t b ty us, r.src = .ptr t ∧ r.lab st = [some (.box b)] ∧ v = .pointer (some ⟨c.bx b, 0, none⟩) ∧ c.own (c.bx b) = some (.box b) ∧ w.heap[c.bx b]? = some (.cells us ty (0, 0)) ∧ vs = us.toList)) := by
 unfold RP.cells at hc
 cases rv with
 | tmp t =>
   rcases (hr : r.src = .tmp t ∨ r.src = .ptr t) with hs | hs
   case inr =>
     rw [hs] at hc; have hreg := h.regs t; simp only at hc
     cases hv : getV st t with
     | tup _ => rw [hv] at hc; cases hc
     | agg l => rw [hv] at hc; cases hc
     | one x =>
       cases x with
       | ptr b g off =>
         rw [hv] at hc hreg; obtain ⟨ho, hb⟩ := bif_some hc; have ho := Nat.eq_of_beq_eq_true ho; subst ho; obtain ⟨sl, k1, k2, k3⟩ := box?_some hb; obtain ⟨q1, vs, ty', q2, q3⟩ := h.boxes b sl cs k1 k3; have e : a.tmps.getD t undef = .pointer (some ⟨c.bx b, 0, none⟩) := hreg.2.2 cs hb; refine ⟨vs.toList, a.tmps.getD t undef, q3, rfl, .inr ⟨t, b, ty', vs, hs, ?_, e, q1, q2, rfl⟩⟩; unfold RP.lab; rw [hs]; simp only [hv]
       | _ => rw [hv] at hc; cases hc
   rw [hs] at hc; have hreg := h.regs t; simp only at hc
   cases hv : getV st t with
   | tup _ => rw [hv] at hc; cases hc
   | agg l =>
     rw [hv] at hc hreg; obtain ⟨hag, hc1⟩ := bif_some hc
     cases hc1
     obtain ⟨vs, e, hl⟩ := hreg; exact ⟨vs.toList, a.eval (.tmp t), hl, rfl, .inl ⟨fun t' e' => (by rw [hs] at e'; cases e'), .inl ⟨hag, by rw [e]⟩⟩⟩
   | one x =>
     rw [hv] at hc hreg; simp only at hc
     cases hag : r.agg with
     | true => rw [hag] at hc; cases hc
     | false =>
       rw [hag] at hc
       cases hc
       refine ⟨[a.eval (.tmp t)], a.eval (.tmp t), ⟨rfl, fun i y z hy hz => ?_⟩, rfl, .inl ⟨fun t' e' => (by rw [hs] at e'; cases e'), .inr ⟨rfl, rfl⟩⟩⟩
       cases i with
       | zero => simp at hy hz; subst hy hz; exact hreg
       | succ i => simp at hy
 | cell t ty =>
   obtain ⟨hs, h1, h2⟩ := hr; rw [hs] at hc; have hreg := h.regs t; simp only at hc
   cases hv : getV st t with
   | tup _ => rw [hv] at hc; cases hc
   | agg l => rw [hv] at hc; cases hc
   | one x =>
     cases x with
     | ptr b g off =>
       rw [hv] at hc hreg; obtain ⟨ho, hb⟩ := bif_some hc; have ho := Nat.eq_of_beq_eq_true ho; subst ho; obtain ⟨sl, k1, k2, k3⟩ := box?_some hb; obtain ⟨q1, vs, ty', q2, q3⟩ := h.boxes b sl cs k1 k3; have e : a.tmps.getD t undef = .pointer (some ⟨c.bx b, 0, none⟩) := hreg.2.2 cs hb; have hrange : w.rangeAt (c.bx b) 0 vs.toList := by
         have := rangeAt_box (off := 0) q2 vs.toList.length
         rwa [List.drop_zero, List.take_length] at this
       have hlen : vs.toList.length = r.ps.length := by rw [← q3.1, hn]
       have hrun := run_loadVar_cells (P := P) hT h1 w (c.bx b) 0 vs.toList hrange hlen; refine ⟨vs.toList, valOf (T.agg ty) vs.toList, q3, ?_, .inl ⟨fun t' e' => (by rw [hs] at e'; cases e'), ?_⟩⟩
       · simp [oneRes, e, asAddr, Sem.run_bind, hrun]
       · rw [h2]
         cases hag : r.agg with
         | true => exact .inl ⟨rfl, by simp [valOf]⟩
         | false =>
           obtain ⟨_, _, _, hone⟩ := hT.agg ty _ h1; have h3 := hone (by rw [h2, hag]); refine .inr ⟨rfl, ?_⟩; have : vs.toList.length = 1 := by rw [hlen, h3]
           cases hvs : vs.toList with
           | nil => rw [hvs] at this; cases this
           | cons x l => cases l with
             | nil => rfl
             | cons _ _ => rw [hvs] at this; simp at this
     | _ => rw [hv] at hc; cases hc
end Go.TM
namespace Go.TM
open Go Go.RowKit
def ResFit (T : Tab) (tm : Array Value) : List ResultVar → List RP → Prop
 | [], [] => True
 | v :: vs, r :: rs => resVal T tm v r ∧ ResFit T tm vs rs
 | _, _ => False
theorem packRs_ok {P : Program} {T : Tab} (hT : TabOk P T) {w0 : World} {mu : Mu} {c : Cz} {st : St} {a : Act} {w : World} (h : Rel w0 mu c st a w) : (rvs : List ResultVar) → (rs : List RP) → ResFit T a.tmps rvs rs → (t : RT) → (y : denR t) → {x : denR (resRT rs t)} → {u : List (Option Lb)} → {r : List (Nat × Nat)} → packRs st rs t y = some (x, u, r) →
   (outsOf rs t x).2 = y ∧ (outsOf rs t x).1.length = rs.length ∧ (∀ l ∈ somes u, l.real = true) ∧ ∃ vals : List Value, (rvs.mapM (oneRes a.tmps)).run P w = .ok vals w ∧ vals.length = rvs.length ∧
     ∀ (ρ : Lb → Option Lb) (j : Nat), (∀ k l, nth u k = some (some l) → ρ l = some (.pres (j + k))) → (∀ p ∈ r, ρ (.sp p.1 p.2) = none) → HoldR (c.map ρ) w j (outsOf rs t x).1 vals
 | [], [], _, t, y, x, u, r, he => by
   injection he with he; injection he with e1 e2; injection e2 with e2 e3; subst e1 e2 e3; exact ⟨rfl, rfl, by simp [somes], [], rfl, rfl, fun _ _ _ _ => rfl⟩
 | [], _ :: _, hf, _, _, _, _, _, _ => hf.elim
 | _ :: _, [], hf, _, _, _, _, _, _ => hf.elim
 | rv :: rvs, rr :: rs, hf, t, y, x, u, r, he => by
   unfold packRs at he; obtain ⟨cs, hc, he⟩ := Option.bind_eq_some_iff.1 he; obtain ⟨q, hq, he⟩ := Option.bind_eq_some_iff.1 he; obtain ⟨p, hp, he⟩ := Option.map_eq_some_iff.1 he; obtain ⟨x2, u2, r2⟩ := q; obtain ⟨x1, u1, r1⟩ := p; injection he with e1 e2; injection e2 with e2 e3; subst e1 e2 e3; obtain ⟨l1, l2, l3⟩ := packL_len rr.ps _ cs _ hp; obtain ⟨vs, v, g1, g2, g3⟩ := RP.cells_ok hT h hf.1 hc l2; obtain ⟨k1, k2, k3, vals, k4, k5, k6⟩ := packRs_ok hT h rvs rs hf.2 t y hq; have h0 := fun (ρ : Lb → Option Lb) (j : Nat) => packL_ok h (ρ := ρ) (f := .pres) rr.ps (resRT rs t) cs x2 vs j g1 hp
   have e0 := (h0 (fun _ => none) 0).1; refine ⟨?_, ?_, fun l hl => ?_, v :: vals, ?_, by simp [k5], fun ρ j hu hr => ?_⟩
   · show (outsOf rs t (opsOV rr.ps (resRT rs t) x1).2).2 = y; rw [e0]; exact k1
   · show (outsOf rs t (opsOV rr.ps (resRT rs t) x1).2).1.length + 1 = _; rw [e0, k2]; rfl
   · rw [mem_somes] at hl; rcases List.mem_append.1 hl with hl | hl
     · unfold RP.lab at hl
       split at hl
       · split at hl
         · simp only [List.mem_singleton, Option.some.injEq] at hl; subst hl; rfl
         · cases hl
       · cases hl
     · rcases List.mem_append.1 hl with hl | hl
       · exact (h0 (fun _ => none) 0).2.1 l (mem_somes.2 hl)
       · exact k3 l (mem_somes.2 hl)
   · rw [List.mapM_cons]; simp [Sem.run_bind, g2, k4]
   · have e : (outsOf (rr :: rs) t x1).1 = rr.rv (opsOV rr.ps (resRT rs t) x1).1 :: (outsOf rs t x2).1 := by
       show rr.rv (opsOV rr.ps (resRT rs t) x1).1 :: (outsOf rs t (opsOV rr.ps (resRT rs t) x1).2).1 = _; rw [e0]
     show HoldR (c.map ρ) w j (outsOf (rr :: rs) t x1).1 (v :: vals); rw [e]; rcases g3 with ⟨hnp, g3⟩ | ⟨tt, b, ty, us, hsrc, hlab, hv, hown, hheap, hvs⟩
     · have hlab : rr.lab st = [] := by
         unfold RP.lab
         split
         · rename_i t' e'; exact absurd e' (hnp t')
         · rfl
       rw [hlab, List.nil_append] at hu; have hL := (h0 ρ j).2.2 (fun k l hk => hu k l (by
         rw [nth_append, if_pos (nth_lt hk)]; exact hk)) (fun p hp => hr p (List.mem_append_left _ hp))
       have hrest := k6 ρ (j + rr.ps.length) (fun k l hk => by
         have := hu (rr.ps.length + k) l (by rw [nth_append, l1, if_neg (by omega), Nat.add_sub_cancel_left]; exact hk); rw [Nat.add_assoc]; exact this) (fun p hp => hr p (List.mem_append_right _ hp))
       have hrv : ∀ os, rr.rv os = (match rr.agg, os with | false, [o] => RV.one o | _, os => RV.agg os) := by
         intro os; unfold RP.rv
         split
         · rename_i t' e'; exact absurd e' (hnp t')
         · rfl
       rcases g3 with ⟨ha, rfl⟩ | ⟨ha, rfl⟩
       · have er : rr.rv (opsOV rr.ps (resRT rs t) x1).1 = .agg (opsOV rr.ps (resRT rs t) x1).1 := by rw [hrv, ha]
         rw [er]; exact ⟨vs.toArray, vals, rfl, by simpa using hL, by rw [l3]; exact hrest⟩
       · have hlen : cs.length = 1 := g1.1; have : (opsOV rr.ps (resRT rs t) x1).1.length = 1 := by rw [l3, ← l2, hlen]
         cases ho : (opsOV rr.ps (resRT rs t) x1).1 with
         | nil => rw [ho] at this; cases this
         | cons o l => cases l with
           | cons _ _ => rw [ho] at this; simp at this
           | nil =>
             have er : rr.rv [o] = .one o := by rw [hrv, ha]
             rw [er]; rw [ho] at hL; refine ⟨v, vals, rfl, hL, ?_⟩; rw [← l2, hlen] at hrest; exact hrest
     · rw [hlab] at hu; have hb := hu 0 (.box b) rfl; have hL := (h0 ρ (j + 1)).2.2 (fun k l hk => by
         have := hu (k + 1) l (by
           show nth (u1 ++ u2) k = _; rw [nth_append, if_pos (nth_lt hk)]; exact hk)
         rwa [show j + (k + 1) = j + 1 + k by omega] at this) (fun p hp => hr p (List.mem_append_left _ hp))
       have hrest := k6 ρ (j + (rr.ps.length + 1)) (fun k l hk => by
         have := hu (rr.ps.length + k + 1) l (by
           show nth (u1 ++ u2) (rr.ps.length + k) = _; rw [nth_append, l1, if_neg (by omega), Nat.add_sub_cancel_left]; exact hk)
         rwa [show j + (rr.ps.length + k + 1) = j + (rr.ps.length + 1) + k by omega] at this) (fun p hp => hr p (List.mem_append_right _ hp))
       have er : rr.rv (opsOV rr.ps (resRT rs t) x1).1 = .ptr (opsOV rr.ps (resRT rs t) x1).1 := by unfold RP.rv; rw [hsrc]
       rw [er]; subst hvs; refine ⟨v, vals, rfl, ⟨c.bx b, us, ty, hv, ?_, hheap, hL⟩, by rw [l3]; exact hrest⟩; rw [Nat.add_zero] at hb; exact (Cz.map_own hown).trans hb
def LentOk (mu : Mu) (lc : Nat → Nat → Loc) (i : Nat) (ps : List AP) (avs : List AV) (vs : List Value) : Prop :=
 ∀ (k : Nat) (p : AP) (av : AV) (v : Value), ps[k]? = some p → avs[k]? = some av → vs[k]? = some v → match p, av with
   | .io _ _, .io A => v.oneCell' = true ∧ SlAt (lc (i + k) 0) A.r.width 0 A.xs.length v ∧ Anc.arr (i + k) 0 1 A.r.width A.xs.length (lc (i + k) 0) ∈ mu.an
   | .box _ _, .box _ => ∃ blk, v = .pointer (some ⟨blk, 0, none⟩) ∧ Anc.box (i + k) 1 blk ∈ mu.an
   | .val _ _, .val _ _ => True
   | .lend qs, .lend os => ∃ us, v = .agg us ∧ ∀ j A, os[j]? = some (.own A) → (∃ r d, qs[j]? = some (.own r d)) ∧ ∃ u, us.toList[j]? = some u ∧ u.oneCell' = true ∧ SlAt (lc (i + k) j) A.r.width 0 A.xs.length u ∧ Anc.arr (i + k) j 1 A.r.width A.xs.length (lc (i + k) j) ∈ mu.an
   | _, _ => False
theorem packXs_ok {w0 : World} {mu : Mu} {c : Cz} {st : St} {a : Act} {w : World} (h : Rel w0 mu c st a w) {lc : Nat → Nat → Loc} : (ps : List AP) → (i : Nat) → (avs : List AV) → (vs : List Value) → ps.length = avs.length → ps.length = vs.length → LentOk mu lc i ps avs vs → {x : denR (extRT ps)} → {u : List Lb} → {r : List (Nat × Nat)} → packXs st i ps = some (x, u, r) →
   (∀ l ∈ u, l.real = true) ∧ ∃ tb : List (Lb × Lb), tb.map (·.1) = u ∧ (∀ p ∈ tb, p.2.handed = true) ∧ ∀ ρ : Lb → Option Lb, (∀ p ∈ tb, ρ p.1 = some p.2) → (∀ p ∈ r, ρ (.sp p.1 p.2) = none) → HoldX (c.map ρ) w lc i avs vs (extsOf ps x)
 | [], i, avs, vs, h1, h2, _, x, u, r, he => by
   injection he with he; injection he with e1 e2; injection e2 with e2 e3; subst e2 e3; have : avs = [] := by simpa using h1.symm
   subst this; exact ⟨by simp, [], rfl, by simp, fun _ _ _ => rfl⟩
 | p :: ps, i, [], vs, h1, _, _, _, _, _, _ => by simp at h1
 | p :: ps, i, _ :: _, [], _, h2, _, _, _, _, _ => by simp at h2
 | p :: ps, i, av :: avs, v :: vs, h1, h2, hl, x, u, r, he => by
   have hl' : LentOk mu lc (i + 1) ps avs vs := fun k p' av' v' e1 e2 e3 => by
     have := hl (k + 1) p' av' v' (by simpa using e1) (by simpa using e2) (by simpa using e3)
     rwa [show i + (k + 1) = i + 1 + k by omega] at this
   have h1' : ps.length = avs.length := by simpa using h1
   have h2' : ps.length = vs.length := by simpa using h2
   have h0 := hl 0 p av v rfl rfl rfl
   cases p with
   | val agg qs =>
     cases av with
     | val agg' os =>
       obtain ⟨g1, tb, g2, g3, g4⟩ := packXs_ok h ps (i + 1) avs vs h1' h2' hl' he; exact ⟨g1, tb, g2, g3, fun ρ hp hr => g4 ρ hp hr⟩
     | io _ => exact h0.elim
     | box _ => exact h0.elim
     | lend _ => exact h0.elim
   | io rr dd =>
     cases av with
     | val _ _ => exact h0.elim
     | box _ => exact h0.elim
     | lend _ => exact h0.elim
     | io A =>
       obtain ⟨q1, q2, q3⟩ := h0; simp only [Nat.add_zero] at q2 q3; unfold packXs at he; obtain ⟨q, hq, he⟩ := Option.bind_eq_some_iff.1 he; obtain ⟨p, hp, he⟩ := Option.map_eq_some_iff.1 he; obtain ⟨x2, u2, r2⟩ := q; obtain ⟨x1, u1, r1⟩ := p; injection he with e1 e2; injection e2 with e2 e3; subst e1 e2 e3; obtain ⟨g1, tb, g2, g3, g4⟩ := packXs_ok h ps (i + 1) avs vs h1' h2' hl' hq; have han := h.anch _ q3; have hV : RelV c st w (.one (.ref i 0 1 .full)) v := ⟨q1, han.1, fun A' hA' => by
         obtain ⟨e1, e2, e3⟩ := han.2 A' hA'; rw [e1, e3]; show SlAt (lc i 0) A.r.width 0 A'.xs.length v; rw [e2]; exact q2⟩
       obtain ⟨a1, a2, ta, a3, a4, a5⟩ := packA_ok h i hV hp; obtain ⟨A', hA', hcast⟩ : ∃ A', arr? st i 0 1 = some A' ∧ ∃ xs, castL rr A'.xs = some xs ∧ x1.1 = xs := by
         have hp : (bif Nat.beq i i && (Nat.beq 0 0 && Nat.beq 1 1) then ((arr? st i 0 1).bind fun A => bif A.own && A.md.is dd then (castL rr A.xs).map fun xs => ((xs, x2), [Lb.sp i 0], ([] : List (Nat × Nat))) else none) else none) = some (x1, u1, r1) := hp; obtain ⟨_, hp1⟩ := bif_some hp; obtain ⟨A', hA', hp2⟩ := Option.bind_eq_some_iff.1 hp1; obtain ⟨_, hp3⟩ := bif_some hp2; obtain ⟨xs, hxs, e⟩ := Option.map_eq_some_iff.1 hp3; injection e with e _; exact ⟨A', hA', xs, hxs, by rw [← e]⟩
       obtain ⟨xs, hxs, ex⟩ := hcast; obtain ⟨e1, e2, e3⟩ := han.2 A' hA'; refine ⟨fun l hl => ?_, ta ++ tb, by simp [a3, g2], fun p hp => ?_, fun ρ hp hr => ?_⟩
       · rcases List.mem_append.1 hl with hl | hl
         · exact a2 l hl
         · exact g1 l hl
       · rcases List.mem_append.1 hp with hp | hp
         · exact a4 p hp
         · exact g3 p hp
       · have hA5 := a5 ρ (fun p hp' => hp p (List.mem_append_left _ hp')) (fun p hp' => hr p (List.mem_append_left _ hp')); have hrest := g4 ρ (fun p hp' => hp p (List.mem_append_right _ hp')) (fun p hp' => hr p (List.mem_append_right _ hp')); have hA5 : OwnAt (c.map ρ) w (.pend i 0) (c.lc i 0) { r := rr, own := true, xs := x1.1, md := dd } v := hA5; rw [e3] at hA5; obtain ⟨er, exs⟩ := castL_some hxs; refine ⟨{ r := rr, own := true, xs := x1.1, md := dd }, extsOf ps x1.2, rfl, ?_, ?_, hA5, ?_⟩
         · show rr.width = A.r.width; rw [← er]; exact e1
         · show List.length (x1.1 : List (denR rr)) = A.xs.length; rw [ex, exs, ← e2]
           cases er
           rfl
         · have : x1.2 = x2 := a1; rw [this]; exact hrest
   | lend qs =>
     cases av with
     | val _ _ => exact h0.elim
     | io _ => exact h0.elim
     | box _ => exact h0.elim
     | lend os =>
       obtain ⟨us, rfl, q1⟩ := h0; simp only [Nat.add_zero] at q1; unfold packXs at he; obtain ⟨q, hq, he⟩ := Option.bind_eq_some_iff.1 he; obtain ⟨p, hp, he⟩ := Option.map_eq_some_iff.1 he; obtain ⟨x2, u2, r2⟩ := q; obtain ⟨x1, u1⟩ := p; injection he with e1 e2; injection e2 with e2 e3; subst e1 e2 e3; obtain ⟨g1, tb, g2, g3, g4⟩ := packXs_ok h ps (i + 1) avs vs h1' h2' hl' hq; obtain ⟨a1, a2, a3⟩ := packLend_ok qs 0 (extRT ps) x2 hp
       let f : Lb → Lb × Lb := fun l => (l, match l with | .sp x y => .pend x y | l => l)
       refine ⟨fun l hl => ?_, u1.map f ++ tb, ?_, fun p hp => ?_, fun ρ hp hr => ?_⟩
       · rcases List.mem_append.1 hl with hl | hl
         · obtain ⟨k, rfl⟩ := a2 l hl; rfl
         · exact g1 l hl
       · rw [List.map_append, List.map_map, g2]
         congr 1
         exact List.map_id u1
       · rcases List.mem_append.1 hp with hp | hp
         · obtain ⟨l, hl, rfl⟩ := List.mem_map.1 hp; obtain ⟨k, rfl⟩ := a2 l hl; rfl
         · exact g3 p hp
       · have hrest := g4 ρ (fun p hp' => hp p (List.mem_append_right _ hp')) hr; refine ⟨(lendX qs (extRT ps) x1).1, extsOf ps (lendX qs (extRT ps) x1).2, rfl, ⟨us, rfl, fun j A hj => ?_⟩, by rw [a1]; exact hrest⟩; obtain ⟨⟨r, dd, hqr⟩, u, b1, b2, b3, b4⟩ := q1 j A hj; obtain ⟨A', xs, c1, c2, cd, c3, c4, c5⟩ := a3 j r dd hqr; rw [Nat.zero_add] at c1 c5; obtain ⟨e1, e2, e3⟩ := (h.anch _ b4).2 A' c1; obtain ⟨er, exs⟩ := castL_some c3; have ha := rel_arr h c1; have hρ : ρ (.sp i j) = some (.pend i j) := hp (.sp i j, .pend i j) (List.mem_append_left _ (List.mem_map.2 ⟨_, c5, rfl⟩)); have hw : r.width = A.r.width := by rw [← er]; exact e1
         have hn : xs.length = A.xs.length := by
           rw [← e2, exs]
           cases er
           rfl
         refine ⟨_, u, c4, b1, hw, hn, b2, ?_, rfl, ?_⟩
         · show SlAt (lc i j) r.width 0 xs.length u; rw [hw, hn]; exact b3
         · show match lc i j with
             | .nil => xs = []
             | .at b off cap => _
           obtain ⟨rA, ownA, xsA, mdA⟩ := A'; simp only at er c2 cd; subst er c2 cd; have exs : xs = xsA := exs; subst exs; unfold ArrOk at ha; have e3 : c.lc i j = lc i j := e3; rw [e3] at ha
           cases hlc : lc i j with
           | nil => rw [hlc] at ha; exact ha
           | «at» b off cap =>
             rw [hlc] at ha; obtain ⟨k0, k2, k3, k4⟩ := ha; exact ⟨(Cz.map_own k0).trans hρ, k2, k3, k4.map hρ⟩
   | box lent qs =>
     cases av with
     | val _ _ => exact h0.elim
     | io _ => exact h0.elim
     | lend _ => exact h0.elim
     | box os =>
       obtain ⟨blk, q1, q2⟩ := h0; simp only [Nat.add_zero] at q2; unfold packXs at he; obtain ⟨q, hq, he⟩ := Option.bind_eq_some_iff.1 he; obtain ⟨p, hp, he⟩ := Option.map_eq_some_iff.1 he; obtain ⟨x2, u2, r2⟩ := q; obtain ⟨x1, u1, r1⟩ := p; injection he with e1 e2; injection e2 with e2 e3; subst e1 e2 e3; obtain ⟨g1, tb, g2, g3, g4⟩ := packXs_ok h ps (i + 1) avs vs h1' h2' hl' hq; have han := h.anch _ q2; have hV : RelV c st w (.one (.ptr i 1 0)) v := ⟨by rw [q1]; rfl, han.1, fun cs hcs => by rw [han.2 cs hcs, q1]⟩; obtain ⟨a1, a2, ta, a3, a4, a5⟩ := packA_ok h i hV hp; refine ⟨fun l hl => ?_, ta ++ tb, by simp [a3, g2], fun p hp => ?_, fun ρ hp hr => ?_⟩
       · rcases List.mem_append.1 hl with hl | hl
         · exact a2 l hl
         · exact g1 l hl
       · rcases List.mem_append.1 hp with hp | hp
         · exact a4 p hp
         · exact g3 p hp
       · have hA5 := a5 ρ (fun p hp' => hp p (List.mem_append_left _ hp')) (fun p hp' => hr p (List.mem_append_left _ hp')); have hrest := g4 ρ (fun p hp' => hp p (List.mem_append_right _ hp')) (fun p hp' => hr p (List.mem_append_right _ hp')); refine ⟨(opsOV qs (extRT ps) x1).1, extsOf ps (opsOV qs (extRT ps) x1).2, rfl, hA5, ?_⟩; have : (opsOV qs (extRT ps) x1).2 = x2 := a1; rw [this]; exact hrest
end Go.TM
namespace Go.TM
open Go Go.RowKit
def start (n : Nat) (ps : List AP) (x : denR (headRT (ps.map some))) : St := slots 0 (heads (ps.map some) x ++ List.replicate (n + 1 - ps.length) none)
theorem heads_length : (l : List (Option AP)) → (x : denR (headRT l)) → (heads l x).length = l.length
 | [], _ => rfl
 | none :: l, x => by
   show (heads l x).length + 1 = l.length + 1; rw [heads_length l x]
 | some p :: l, x => by
   show (heads l (p.av (headRT l) x).2).length + 1 = l.length + 1; rw [heads_length l _]
theorem castAs_ok {c : Cz} {w : World} {lc : Nat → Nat → Loc} : (ps : List AP) → (i : Nat) → (avs : List AV) → (vs : List Value) → {x : denR (headRT (ps.map some))} → castAs ps avs = some x → HoldAs c w lc i avs vs →
   ps.length = avs.length ∧ ps.length = vs.length ∧ ∀ k av, (heads (ps.map some) x)[k]? = some (some av) → ∃ v, vs[k]? = some v ∧ HoldA c w (i + k) (lc (i + k)) av v
 | [], i, [], vs, x, hx, h => by
   have : vs = [] := h; subst this; exact ⟨rfl, rfl, fun k av hk => by
     have hk : ([] : List (Option AV))[k]? = some (some av) := hk; simp at hk⟩
 | [], _, _ :: _, _, _, hx, _ => by simp [castAs] at hx
 | _ :: _, _, [], _, _, hx, _ => by simp [castAs] at hx
 | p :: ps, i, av :: avs, vs, x, hx, h => by
   obtain ⟨v, l, rfl, h1, h2⟩ := h; unfold castAs at hx
   cases hy : castAs ps avs with
   | none => simp [hy] at hx
   | some y =>
     simp only [hy] at hx; obtain ⟨g1, g2, g3⟩ := castAs_ok ps (i + 1) avs l hy h2; obtain ⟨q1, q2⟩ := castA_ok (c := c) (w := w) (i := i) (lc := lc i) hx; refine ⟨by simp [g1], by simp [g2], fun k av' hk => ?_⟩
     cases k with
     | zero =>
       have hk : some (some (p.av (headRT (ps.map some)) x).1) = some (some av') := hk; simp only [Option.some.injEq] at hk; subst hk; exact ⟨v, rfl, q2 v h1⟩
     | succ k =>
       have hk : (heads (ps.map some) (p.av (headRT (ps.map some)) x).2)[k]? = some (some av') := hk; rw [q1] at hk; obtain ⟨v', h3, h4⟩ := g3 k av' hk; exact ⟨v', by simpa using h3, by rw [show i + (k + 1) = i + 1 + k by omega]; exact h4⟩
def lendAncs (lc : Nat → Loc) (i : Nat) : (j : Nat) → List OV → List Anc
 | _, [] => []
 | j, .own A :: os => .arr i j 1 A.r.width A.xs.length (lc j) :: lendAncs lc i (j + 1) os
 | j, .int _ _ :: os => lendAncs lc i (j + 1) os
 | j, .bool _ :: os => lendAncs lc i (j + 1) os
 | j, .str _ :: os => lendAncs lc i (j + 1) os
 | j, .shr _ _ :: os => lendAncs lc i (j + 1) os
 | j, .rpt _ _ :: os => lendAncs lc i (j + 1) os
 | j, .fn _ _ _ :: os => lendAncs lc i (j + 1) os
 | j, .nils :: os => lendAncs lc i (j + 1) os
theorem lendAncs_mem {lc : Nat → Loc} {i : Nat} : (os : List OV) → (j : Nat) → ∀ p ∈ lendAncs lc i j os, ∃ k A, os[k]? = some (.own A) ∧ p = .arr i (j + k) 1 A.r.width A.xs.length (lc (j + k))
 | [], j, p, h => by simp [lendAncs] at h
 | o :: os, j, p, h => by
   have rest : p ∈ lendAncs lc i (j + 1) os → ∃ k A, (o :: os)[k]? = some (.own A) ∧ p = .arr i (j + k) 1 A.r.width A.xs.length (lc (j + k)) := by
     intro h; obtain ⟨k, A, h1, h2⟩ := lendAncs_mem os (j + 1) p h; refine ⟨k + 1, A, by simpa using h1, ?_⟩; rw [h2, show j + 1 + k = j + (k + 1) by omega]
   cases o with
   | own A =>
     rcases List.mem_cons.1 h with h | h
     · exact ⟨0, A, rfl, h⟩
     · exact rest h
   | _ => exact rest h
theorem lendAncs_of {lc : Nat → Loc} {i : Nat} : (os : List OV) → (j : Nat) → ∀ (k : Nat) (A : Arr), os[k]? = some (.own A) → Anc.arr i (j + k) 1 A.r.width A.xs.length (lc (j + k)) ∈ lendAncs lc i j os
 | [], j, k, A, h => by simp at h
 | o :: os, j, 0, A, h => by
   simp only [List.getElem?_cons_zero, Option.some.injEq] at h; subst h; exact List.mem_cons_self
 | o :: os, j, k + 1, A, h => by
   have := lendAncs_of (lc := lc) (i := i) os (j + 1) k A (by simpa using h); rw [show j + 1 + k = j + (k + 1) by omega] at this
   cases o with
   | own A => exact List.mem_cons_of_mem _ this
   | _ => exact this
def ancs (lc : Nat → Nat → Loc) : (i : Nat) → List AV → List Value → List Anc
 | _, [], _ => []
 | _, _ :: _, [] => []
 | i, .val _ _ :: as, _ :: vs => ancs lc (i + 1) as vs
 | i, .io A :: as, _ :: vs => .arr i 0 1 A.r.width A.xs.length (lc i 0) :: ancs lc (i + 1) as vs
 | i, .lend os :: as, _ :: vs => lendAncs (lc i) i 0 os ++ ancs lc (i + 1) as vs
 | i, .box _ :: as, v :: vs => .box i 1 (match v with | .pointer (some ad) => ad.block | _ => 0) :: ancs lc (i + 1) as vs
theorem ancs_mem {lc : Nat → Nat → Loc} : (i : Nat) → (as : List AV) → (vs : List Value) → ∀ p ∈ ancs lc i as vs, ∃ k av v, as[k]? = some av ∧ vs[k]? = some v ∧ ((∃ A, av = .io A ∧ p = .arr (i + k) 0 1 A.r.width A.xs.length (lc (i + k) 0)) ∨ (∃ os, av = .box os ∧ p = .box (i + k) 1 (match v with | .pointer (some ad) => ad.block | _ => 0)) ∨ ∃ os j A, av = .lend os ∧ os[j]? = some (.own A) ∧ p = .arr (i + k) j 1 A.r.width A.xs.length (lc (i + k) j))
 | _, [], _, p, h => by simp [ancs] at h
 | _, _ :: _, [], p, h => by simp [ancs] at h
 | i, .val _ _ :: as, _ :: vs, p, h => by
   obtain ⟨k, av, v, h1, h2, h3⟩ := ancs_mem (i + 1) as vs p h; exact ⟨k + 1, av, v, by simpa using h1, by simpa using h2, by rw [show i + (k + 1) = i + 1 + k by omega]; exact h3⟩
 | i, .io A :: as, v0 :: vs, p, h => by
   rcases List.mem_cons.1 h with h | h
   · exact ⟨0, .io A, v0, rfl, rfl, .inl ⟨A, rfl, h⟩⟩
   · obtain ⟨k, av, v, h1, h2, h3⟩ := ancs_mem (i + 1) as vs p h; exact ⟨k + 1, av, v, by simpa using h1, by simpa using h2, by rw [show i + (k + 1) = i + 1 + k by omega]; exact h3⟩
 | i, .box os :: as, v0 :: vs, p, h => by
   rcases List.mem_cons.1 h with h | h
   · exact ⟨0, .box os, v0, rfl, rfl, .inr (.inl ⟨os, rfl, h⟩)⟩
   · obtain ⟨k, av, v, h1, h2, h3⟩ := ancs_mem (i + 1) as vs p h; exact ⟨k + 1, av, v, by simpa using h1, by simpa using h2, by rw [show i + (k + 1) = i + 1 + k by omega]; exact h3⟩
 | i, .lend os :: as, v0 :: vs, p, h => by
   rcases List.mem_append.1 h with h | h
   · obtain ⟨j, A, h1, h2⟩ := lendAncs_mem os 0 p h; rw [Nat.zero_add] at h2; exact ⟨0, .lend os, v0, rfl, rfl, .inr (.inr ⟨os, j, A, rfl, h1, h2⟩)⟩
   · obtain ⟨k, av, v, h1, h2, h3⟩ := ancs_mem (i + 1) as vs p h; exact ⟨k + 1, av, v, by simpa using h1, by simpa using h2, by rw [show i + (k + 1) = i + 1 + k by omega]; exact h3⟩
theorem ancs_of {lc : Nat → Nat → Loc} : (i : Nat) → (as : List AV) → (vs : List Value) → as.length = vs.length → ∀ k av v, as[k]? = some av → vs[k]? = some v → (∀ A, av = .io A → Anc.arr (i + k) 0 1 A.r.width A.xs.length (lc (i + k) 0) ∈ ancs lc i as vs) ∧ (∀ os, av = .box os → Anc.box (i + k) 1 (match v with | .pointer (some ad) => ad.block | _ => 0) ∈ ancs lc i as vs) ∧ (∀ os, av = .lend os → ∀ j A, os[j]? = some (.own A) → Anc.arr (i + k) j 1 A.r.width A.xs.length (lc (i + k) j) ∈ ancs lc i as vs)
 | _, [], _, _, k, av, v, h, _ => by simp at h
 | _, _ :: _, [], hn, _, _, _, _, _ => by simp at hn
 | i, a0 :: as, v0 :: vs, hn, 0, av, v, h1, h2 => by
   simp only [List.getElem?_cons_zero, Option.some.injEq] at h1 h2; subst h1 h2; refine ⟨fun A e => ?_, fun os e => ?_, fun os e j A hj => ?_⟩
   · subst e; exact List.mem_cons_self
   · subst e; exact List.mem_cons_self
   · subst e; have := lendAncs_of (lc := lc i) (i := i) os 0 j A hj; rw [Nat.zero_add] at this; exact List.mem_append_left _ this
 | i, a0 :: as, v0 :: vs, hn, k + 1, av, v, h1, h2 => by
   obtain ⟨g1, g2, g3⟩ := ancs_of (i + 1) as vs (by simpa using hn) k av v (by simpa using h1) (by simpa using h2); have e : i + (k + 1) = i + 1 + k := by omega
   rw [e]
   cases a0 with
   | val _ _ => exact ⟨g1, g2, g3⟩
   | io _ => exact ⟨fun A h => List.mem_cons_of_mem _ (g1 A h), fun os h => List.mem_cons_of_mem _ (g2 os h), fun os h j A hj => List.mem_cons_of_mem _ (g3 os h j A hj)⟩
   | box _ => exact ⟨fun A h => List.mem_cons_of_mem _ (g1 A h), fun os h => List.mem_cons_of_mem _ (g2 os h), fun os h j A hj => List.mem_cons_of_mem _ (g3 os h j A hj)⟩
   | lend _ => exact ⟨fun A h => List.mem_append_right _ (g1 A h), fun os h => List.mem_append_right _ (g2 os h), fun os h j A hj => List.mem_append_right _ (g3 os h j A hj)⟩
def AnShape (ps : List AP) (mu : Mu) : Prop :=
 ∀ p ∈ mu.an, (∃ i r W n l, p = .arr i 0 1 W n l ∧ ∃ d, ps[i]? = some (.io r d)) ∨ (∃ i blk b qs, p = .box i 1 blk ∧ ps[i]? = some (.box b qs)) ∨ ∃ i j W n l qs, p = .arr i j 1 W n l ∧ ps[i]? = some (.lend qs)
theorem castOs_own : (ps : List OP) → (t : RT) → (os : List OV) → (y : denR t) → {x : denR (opsRT ps t)} → castOs ps t os y = some x → ∀ (j : Nat) (A : Arr), os[j]? = some (.own A) → (∃ r d, ps[j]? = some (.own r d)) ∧ ∃ B : Arr, (opsOV ps t x).1[j]? = some (.own B) ∧ B.r.width = A.r.width ∧ B.xs.length = A.xs.length
 | [], t, [], y, x, h => by intro k A hk; simp at hk
 | [], _, _ :: _, _, _, h => by simp [castOs] at h
 | _ :: _, _, [], _, _, h => by simp [castOs] at h
 | p :: ps, t, o :: os, y, x, h => by
   unfold castOs at h
   cases h1 : castO p o with
   | none => simp [h1] at h
   | some a =>
     cases h2 : castOs ps t os y with
     | none => simp [h1, h2] at h
     | some z =>
       simp only [h1, h2] at h; have h : (a, z) = x := Option.some.inj h; subst h; intro j A hj
       cases j with
       | succ j =>
         obtain ⟨⟨r, d, q1⟩, B, q2, q3⟩ := castOs_own ps t os y h2 j A (by simpa using hj); exact ⟨⟨r, d, by simpa using q1⟩, B, (by show (opsOV ps t z).1[j]? = _; exact q2), q3⟩
       | zero =>
         simp only [List.getElem?_cons_zero, Option.some.injEq] at hj; subst hj
         cases p with
         | own r d =>
           have h1 : (bif A.md.is d then castL r A.xs else none) = some a := h1; obtain ⟨_, h1⟩ := bif_some h1; obtain ⟨er, exs⟩ := castL_some h1; refine ⟨⟨r, d, rfl⟩, { r := r, own := true, xs := a, md := d }, rfl, by show r.width = _; rw [← er], ?_⟩; show List.length (a : List (denR r)) = _; rw [exs]
           cases er
           rfl
         | _ => cases h1
theorem castAs_form : (ps : List AP) → (avs : List AV) → {x : denR (headRT (ps.map some))} → castAs ps avs = some x → ∀ (k : Nat) (av : AV), avs[k]? = some av → ∃ p : AP, ps[k]? = some p ∧ match p, av with
   | .io _ _, .io A => ∃ B : Arr, (heads (ps.map some) x)[k]? = some (some (.io B)) ∧ B.r.width = A.r.width ∧ B.xs.length = A.xs.length
   | .box _ _, .box _ => True
   | .val _ _, .val _ _ => True
   | .lend qs, .lend os => ∃ os' : List OV, (heads (ps.map some) x)[k]? = some (some (AV.lend os')) ∧ ∀ (j : Nat) (A : Arr), os[j]? = some (OV.own A) → (∃ r d, qs[j]? = some (OP.own r d)) ∧ ∃ B : Arr, os'[j]? = some (OV.own B) ∧ B.r.width = A.r.width ∧ B.xs.length = A.xs.length
   | _, _ => False
 | [], [], _, _ => by intro k av h; simp at h
 | [], _ :: _, _, hx => by simp [castAs] at hx
 | _ :: _, [], _, hx => by simp [castAs] at hx
 | p :: ps, av :: avs, x, hx => by
   unfold castAs at hx
   cases hy : castAs ps avs with
   | none => simp [hy] at hx
   | some y =>
     simp only [hy] at hx; have e2 : (p.av (headRT (ps.map some)) x).2 = y := (castA_ok (c := ⟨fun _ => 0, fun _ _ => .nil, fun _ => none⟩) (w := default) (i := 0) (lc := fun _ => .nil) hx).1; intro k av' hk
     cases k with
     | zero =>
       simp only [List.getElem?_cons_zero, Option.some.injEq] at hk; subst hk; refine ⟨p, rfl, ?_⟩
       cases p with
       | val agg qs => cases av with
         | val _ _ => trivial
         | io _ => cases agg <;> cases hx
         | box _ => cases agg <;> cases hx
         | lend _ => cases agg <;> cases hx
       | io r d => cases av with
         | val _ _ => cases hx
         | box _ => cases hx
         | lend _ => cases hx
         | io A =>
           have hx : (bif A.md.is d then (match castL r A.xs with | some xs => some ((xs, y) : denR (.cons (.sl r) (headRT (ps.map some)))) | none => none) else none) = some x := hx; obtain ⟨_, hx⟩ := bif_some hx
           cases hc : castL r A.xs with
           | none => rw [hc] at hx; cases hx
           | some xs =>
             rw [hc] at hx; injection hx with hx; obtain ⟨er, exs⟩ := castL_some hc; refine ⟨{ r := r, own := true, xs := x.1, md := d }, rfl, by show r.width = _; rw [← er], ?_⟩; show List.length (x.1 : List (denR r)) = _; rw [← hx]; show xs.length = _; rw [exs]
             cases er
             rfl
       | box b qs => cases av with
         | val _ _ => cases hx
         | io _ => cases hx
         | lend _ => cases hx
         | box _ => trivial
       | lend qs => cases av with
         | val _ _ => cases hx
         | io _ => cases hx
         | box _ => cases hx
         | lend os =>
           have hx : castOs qs (headRT (ps.map some)) os y = some x := hx; exact ⟨_, rfl, castOs_own qs _ os y hx⟩
     | succ k =>
       obtain ⟨p', h1, h2⟩ := castAs_form ps avs hy k av' (by simpa using hk); refine ⟨p', by simpa using h1, ?_⟩; have eh : (heads ((p :: ps).map some) x)[k + 1]? = (heads (ps.map some) y)[k]? := by
         show (heads (ps.map some) (p.av (headRT (ps.map some)) x).2)[k]? = _; rw [e2]
       cases p' <;> cases av' <;> simp only at h2 ⊢ <;> (try exact h2)
       · obtain ⟨B, q1, q2, q3⟩ := h2; exact ⟨B, eh.trans q1, q2, q3⟩
       · obtain ⟨os', q1, q2⟩ := h2; exact ⟨os', eh.trans q1, q2⟩
end Go.TM
namespace Go.TM
open Go Go.RowKit
theorem run_results {P : Program} {fn : Func} {tm : Array Value} {w : World} {vals : List Value} (h : (fn.results.toList.mapM (oneRes tm)).run P w = .ok vals w) :
   (results fn tm).run P w = .ok (if hs : vals.toArray.size = 1 then vals.toArray[0] else .tuple vals.toArray) w := by
 have e : results fn tm = (do let vs ← fn.results.mapM (oneRes tm); pure (if h : vs.size = 1 then vs[0] else .tuple vs) : Sem Value) := rfl; rw [e, Array.mapM_eq_mapM_toList]; simp [Sem.run_bind, h]
theorem start_ok {c : Cz} {w : World} {mu : Mu} {lc : Nat → Nat → Loc} {avs : List AV} {args : Array Value} (hH : Handed c w mu) (hA : HoldAs c w lc 0 avs args.toList) {ps : List AP} {x : denR (headRT (ps.map some))} (hx : castAs ps avs = some x) {n : Nat} (hn : ps.length ≤ n) :
   ∃ (mu2 : Mu) (c' : Cz), mu2.m = mu.m ∧ mu2.ok = mu.ok ∧ AnShape ps mu2 ∧ LentOk mu2 lc 0 ps avs args.toList ∧ args.size = ps.length ∧ avs.length = ps.length ∧
     Rel w mu2 c' (start n ps x) { tmps := args ++ Array.replicate (n - args.size) undef, defers := [] } w := by
 obtain ⟨l1, l2, hold⟩ := castAs_ok ps 0 avs args.toList hx hA; have hform := castAs_form ps avs hx; have hargs : args.size = ps.length := by rw [l2]; simp
 let a : Act := { tmps := args ++ Array.replicate (n - args.size) undef, defers := [] }
 have heval : ∀ k v, args.toList[k]? = some v → a.eval (.tmp k) = v := by
   intro k v hk; have hlt : k < args.size := by
     have := (List.getElem?_eq_some_iff.1 hk).1; simpa using this
   show (args ++ Array.replicate (n - args.size) undef).getD k undef = v; rw [Array.getD_eq_getD_getElem?, Array.getElem?_append_left hlt]; rw [Array.getElem?_toList] at hk; rw [hk]; rfl
 let mu2 : Mu := { m := mu.m, ok := mu.ok, an := ancs lc 0 avs args.toList }
 have hlen : (heads (ps.map some) x ++ List.replicate (n + 1 - ps.length) none).length = n + 1 := by
   rw [List.length_append, heads_length]; simp; omega
 have hget : ∀ (i : Nat) (av : AV), (heads (ps.map some) x ++ List.replicate (n + 1 - ps.length) none)[i]? = some (some av) → (heads (ps.map some) x)[i]? = some (some av) := by
   intro i av hi
   by_cases h : i < (heads (ps.map some) x).length
   · rwa [List.getElem?_append_left h] at hi
   · rw [List.getElem?_append_right (by omega), List.getElem?_replicate] at hi
     split at hi <;> simp at hi
 have hbas : Bas w mu2 c w := ⟨fun b l hb => ⟨hH.lt b l hb, (hH.lb b l hb).imp id fun hh => .inr ((hH.m b).2 ⟨l, hb, hh⟩)⟩, fun b _ hb => .inr ((hH.ok b).2 hb), ⟨rfl, rfl, rfl, Nat.le_refl _⟩, fun _ _ _ => rfl⟩; have hslots : HoldSlots c w lc a 0 (heads (ps.map some) x ++ List.replicate (n + 1 - ps.length) none) := by
   intro i av hi; obtain ⟨v, h1, h2⟩ := hold i av (hget i av hi); have := heval i v h1; rw [Nat.zero_add] at h2 ⊢; rw [this]; exact h2
 have hboth : ∀ k av v, avs[k]? = some av → args.toList[k]? = some v → HoldA c w k (lc k) av v := by
   have key : ∀ (avs : List AV) (i : Nat) (vs : List Value), HoldAs c w lc i avs vs → ∀ k av v, avs[k]? = some av → vs[k]? = some v → HoldA c w (i + k) (lc (i + k)) av v := by
     intro avs
     induction avs with
     | nil => intro i vs _ k av v h; simp at h
     | cons a0 avs ih =>
       intro i vs h k av v h1 h2; obtain ⟨v0, l, rfl, g1, g2⟩ := h
       cases k with
       | zero => simp at h1 h2; subst h1 h2; exact g1
       | succ k =>
         have := ih (i + 1) l g2 k av v (by simpa using h1) (by simpa using h2)
         rwa [show i + 1 + k = i + (k + 1) by omega] at this
   intro k av v h1 h2; have := key avs 0 args.toList hA k av v h1 h2
   rwa [Nat.zero_add] at this
 have hfits : ∀ p ∈ mu2.an, AnFits (heads (ps.map some) x ++ List.replicate (n + 1 - ps.length) none) lc a p := by
   intro p hp; obtain ⟨k, av, v, h1, h2, h3⟩ := ancs_mem 0 avs args.toList p hp; have hk : k < ps.length := by rw [l1]; exact (List.getElem?_eq_some_iff.1 h1).1
   simp only [Nat.zero_add] at h3; obtain ⟨p', q1, q2⟩ := hform k av h1; rcases h3 with ⟨A, rfl, rfl⟩ | ⟨os, rfl, rfl⟩ | ⟨os, j, A, rfl, hj, rfl⟩
   · refine ⟨rfl, by rw [hlen]; omega, fun av' hav' => .inl ?_⟩
     cases p' with
     | io r dd =>
       obtain ⟨B, e1, e2, e3⟩ := q2; have := hget k av' hav'; rw [e1] at this; simp only [Option.some.injEq] at this; exact ⟨B, this.symm, fun _ => ⟨e2, e3, rfl⟩⟩
     | val _ _ => exact q2.elim
     | box _ _ => exact q2.elim
     | lend _ => exact q2.elim
   · refine ⟨rfl, by rw [hlen]; omega, fun os' _ => ?_⟩; obtain ⟨blk, vs, ty, e1, _⟩ := hboth k _ v h1 h2; rw [heval k v h2, e1]
   · refine ⟨rfl, by rw [hlen]; omega, fun av' hav' => .inr ?_⟩
     cases p' with
     | io r dd => exact q2.elim
     | val _ _ => exact q2.elim
     | box _ _ => exact q2.elim
     | lend qs =>
       obtain ⟨os', e1, e2⟩ := q2; have := hget k av' hav'; rw [e1] at this; simp only [Option.some.injEq] at this; obtain ⟨_, B, e3, e4, e5⟩ := e2 j A hj; refine ⟨os', this.symm, fun A' hA' => ?_⟩; rw [e3] at hA'; injection hA' with hA'; injection hA' with hA'; subst hA'; exact ⟨e4, e5, rfl⟩
 obtain ⟨c', hR⟩ := Rel.scratch (a := a) hbas rfl hslots hfits; refine ⟨mu2, c', rfl, rfl, fun p hp => ?_, fun k p av v h0 h1 h2 => ?_, hargs, l1.symm, hR⟩
 · obtain ⟨k, av, v, h1, h2, h3⟩ := ancs_mem 0 avs args.toList p hp; simp only [Nat.zero_add] at h3; obtain ⟨p', q1, q2⟩ := hform k av h1; rcases h3 with ⟨A, rfl, rfl⟩ | ⟨os, rfl, rfl⟩ | ⟨os, j, A, rfl, hj, rfl⟩
   · cases p' with
     | io r dd => exact .inl ⟨k, r, _, _, _, rfl, dd, q1⟩
     | val _ _ => exact q2.elim
     | box _ _ => exact q2.elim
     | lend _ => exact q2.elim
   · cases p' with
     | io r dd => exact q2.elim
     | val _ _ => exact q2.elim
     | box b qs => exact .inr (.inl ⟨k, _, b, qs, rfl, q1⟩)
     | lend _ => exact q2.elim
   · cases p' with
     | io r dd => exact q2.elim
     | val _ _ => exact q2.elim
     | box b qs => exact q2.elim
     | lend qs => exact .inr (.inr ⟨k, j, _, _, _, qs, rfl, q1⟩)
 · obtain ⟨p', q1, q2⟩ := hform k av h1; rw [h0] at q1
   cases q1
   have hh := hboth k av v h1 h2; obtain ⟨a1, a2, a3⟩ := ancs_of (lc := lc) 0 avs args.toList (by rw [← l1, l2]) k av v h1 h2; rw [Nat.zero_add] at a1 a2 a3 ⊢
   cases p with
   | val _ _ => cases av with
     | val _ _ => trivial
     | io _ => exact q2.elim
     | box _ => exact q2.elim
     | lend _ => exact q2.elim
   | lend qs => cases av with
     | val _ _ => exact q2.elim
     | io _ => exact q2.elim
     | box _ => exact q2.elim
     | lend os =>
       obtain ⟨us, rfl, hl, hloc⟩ := hh; obtain ⟨os', _, e2⟩ := q2; obtain ⟨n1, _⟩ := HoldL.nthc os 0 _ hl; refine ⟨us, rfl, fun j A hj => ⟨(e2 j A hj).1, ?_⟩⟩; have hlt : j < us.toList.length := by rw [n1]; exact (List.getElem?_eq_some_iff.1 hj).1
       have hO : OwnAt c w (.pend k j) (lc k j) A us.toList[j] := hloc j _ _ hj (List.getElem?_eq_getElem hlt); exact ⟨_, List.getElem?_eq_getElem hlt, hO.1, hO.2.1, a3 os rfl j A hj⟩
   | io r dd => cases av with
     | val _ _ => exact q2.elim
     | box _ => exact q2.elim
     | lend _ => exact q2.elim
     | io A =>
       have hO : OwnAt c w (.pend k 0) (lc k 0) A v := hh; exact ⟨hO.1, hO.2.1, a1 A rfl⟩
   | box _ _ => cases av with
     | val _ _ => exact q2.elim
     | io _ => exact q2.elim
     | lend _ => exact q2.elim
     | box os =>
       obtain ⟨blk, vs, ty, e1, _⟩ := hh; refine ⟨blk, e1, ?_⟩; have := a2 os rfl; rw [e1] at this; exact this
theorem fin_ok {P : Program} {T : Tab} (hT : TabOk P T) {w0 : World} {mu mu2 : Mu} (hm : mu2.m = mu.m) (hok : mu2.ok = mu.ok) {c : Cz} {st : St} {a : Act} {w : World} (h : Rel w0 mu2 c st a w) {fn : Func} {ps : List AP} {rs : List RP} (hrs : ResFit T a.tmps fn.results.toList rs)
   {lc : Nat → Nat → Loc} {avs : List AV} {vs : List Value} (h1 : ps.length = avs.length) (h2 : ps.length = vs.length) (hl : LentOk mu2 lc 0 ps avs vs) {e : Ex} {y : denR (resRT rs (extRT ps))} (hf : finK rs ps e st = some y) :
   (e = .normal ∨ e = .ret) ∧ ∃ v, (results fn a.tmps).run P w = .ok v w ∧ ∃ c', Bas w0 mu c' w ∧ HoldV c' w (outsOf rs (extRT ps) y).1 v ∧ HoldX c' w lc 0 avs vs (extsOf ps (outsOf rs (extRT ps) y).2) := by
 have he : e = .normal ∨ e = .ret := by
   cases e with
   | normal => exact .inl rfl
   | ret => exact .inr rfl
   | exit m => cases hf
 refine ⟨he, ?_⟩; have hf : ((packXs st 0 ps).bind fun x => (packRs st rs (extRT ps) x.1).bind fun q => bif noTwice (somes q.2.1 ++ x.2.1) && apart (somes q.2.1 ++ x.2.1) (q.2.2 ++ x.2.2) then some q.1 else none) = some y := by
   rcases he with rfl | rfl <;> exact hf
 obtain ⟨qx, hqx, hf⟩ := Option.bind_eq_some_iff.1 hf; obtain ⟨qr, hqr, hf⟩ := Option.bind_eq_some_iff.1 hf; obtain ⟨hchk, hy⟩ := bif_some hf; injection hy with hy; obtain ⟨x1, u1, r1⟩ := qx; obtain ⟨x2, u2, r2⟩ := qr; subst hy; rw [Bool.and_eq_true] at hchk; obtain ⟨a1, tb, a2, a3, a4⟩ := packXs_ok h ps 0 avs vs h1 h2 hl hqx; obtain ⟨b1, b2, b3, vals, b4, b5, b6⟩ := packRs_ok hT h fn.results.toList rs hrs (extRT ps) x1 hqr; have hreal : ∀ l ∈ somes u2 ++ u1, l.real = true := fun l hl => (List.mem_append.1 hl).elim (b3 l) (a1 l)
 have hnd := noTwice_nodup _ hreal hchk.1; have hap : ∀ p ∈ r2 ++ r1, Lb.sp p.1 p.2 ∉ somes u2 ++ u1 := by
   intro p hp hm; have h1 := List.all_eq_true.1 hchk.2 p hp; have h2 := List.all_eq_true.1 h1 _ hm; rw [(Lb.same_iff rfl).2 rfl] at h2
   cases h2
 let tab := numb .pres 0 u2 ++ tb
 have htab : tab.map (·.1) = somes u2 ++ u1 := by show (numb .pres 0 u2 ++ tb).map _ = _; rw [List.map_append, numb_fst, a2]
 have hcl := Classical.propDecidable
 let ρ : Lb → Option Lb := fun l => match look tab l with | some y => some y | none => if l = .out then some .out else none
 have hρt : ∀ p ∈ tab, ρ p.1 = some p.2 := by
   intro p hp; have := look_mem tab (by rw [htab]; exact hnd) hp; show (match look tab p.1 with | some y => some y | none => _) = _; rw [this]
 have hlook : ∀ {l y}, look tab l = some y → l ∈ somes u2 ++ u1 := by
   intro l y hl; have := look_some tab hl; rw [← htab]; exact List.mem_map.2 ⟨_, this, rfl⟩
 have hρr : ∀ p ∈ r2 ++ r1, ρ (.sp p.1 p.2) = none := by
   intro p hp; show (match look tab (.sp p.1 p.2) with | some y => some y | none => if Lb.sp p.1 p.2 = .out then some Lb.out else none) = none
   cases hl : look tab (.sp p.1 p.2) with
   | some y => exact absurd (hlook hl) (hap p hp)
   | none => simp
 have hρo : ρ .out = some .out := by
   show (match look tab Lb.out with | some y => some y | none => if Lb.out = Lb.out then some Lb.out else none) = _
   cases hl : look tab Lb.out with
   | some y => have := hreal _ (hlook hl); cases this
   | none => simp
 have hbas : Bas w0 mu (c.map ρ) w := by
   refine ⟨fun b l hb => ?_, fun b hb hn => ?_, h.kept, by rw [← hm]; exact h.old⟩
   · obtain ⟨k, hk, e⟩ := Cz.map_some hb; obtain ⟨g1, g2⟩ := h.owned b k hk; refine ⟨g1, ?_⟩; rw [← hm]; refine g2.imp (fun e2 => ?_) id; subst e2; rw [hρo] at e
     cases e; rfl
   · rw [← hm, ← hok]
     cases hk : c.own b with
     | none => exact h.free b hb hk
     | some k =>
       have e : ρ k = none := (Cz.map_own (ρ := ρ) hk).symm.trans hn; rcases (h.owned b k hk).2 with g | g | g
       · subst g; rw [hρo] at e; cases e
       · exact absurd g (Nat.not_le_of_lt hb)
       · exact .inl g
 have hX := a4 ρ (fun p hp => hρt p (List.mem_append_right _ hp)) (fun p hp => hρr p (List.mem_append_right _ hp)); have hR := b6 ρ 0 (fun k l hk => by
   have := hρt _ (List.mem_append_left tb (numb_get .pres 0 u2 k l hk)); exact this) (fun p hp => hρr p (List.mem_append_left _ hp))
 refine ⟨_, run_results b4, c.map ρ, hbas, ?_, by rw [b1]; exact hX⟩; have hlen : vals.length = (outsOf rs (extRT ps) x2).1.length := by
   have : rs.length = fn.results.toList.length := by
     have key : ∀ (l : List ResultVar) (m : List RP), ResFit T a.tmps l m → m.length = l.length := by
       intro l
       induction l with
       | nil => intro m hm; cases m with
         | nil => rfl
         | cons _ _ => exact hm.elim
       | cons v l ih => intro m hm; cases m with
         | nil => exact hm.elim
         | cons r m => simp [ih m hm.2]
     exact key _ _ hrs
   rw [b5, b2, this]
 by_cases hs : vals.toArray.size = 1
 · rw [dif_pos hs]; have hs' : vals.length = 1 := by simpa using hs
   obtain ⟨v, rfl⟩ : ∃ v, vals = [v] := by
     cases vals with
     | nil => cases hs'
     | cons v l => cases l with
       | nil => exact ⟨v, rfl⟩
       | cons _ _ => simp at hs'
   rw [hs'] at hlen
   cases ho : (outsOf rs (extRT ps) x2).1 with
   | nil => rw [ho] at hlen; cases hlen
   | cons r l => cases l with
     | cons _ _ => rw [ho] at hlen; simp at hlen
     | nil =>
       rw [ho] at hR; exact .inl ⟨r, rfl, hR⟩
 · rw [dif_neg hs]; refine .inr ⟨by rw [← hlen]; simpa using hs, vals.toArray, rfl, by simpa using hR⟩
theorem fn_ok_at {P : Program} {T : Tab} (hT : TabOk P T) (hE : EqOk P T) {S : Sems} (hS : SemsOk P S) {D : Draws} {f : FuncId} {fn : Func} {code : Code} {n : Nat} {ps : List AP} {rs : List RP} {L : Loops (denR (resRT rs (extRT ps)))} {okD : Nat → Array Oper → Prop}
   {t : denR (headRT (ps.map some)) → Option (denR (resRT rs (extRT ps)))}
   (hf : P.funcs[f]? = some fn) (hb : fn.body = some code) (hn : fn.ntmps = n) (hps : ps.length ≤ n) (hdst : codeDst n code = true) (hres : ∀ tm, ResFit T tm fn.results.toList rs)
   (hL : ∀ (w0 : World) (mu : Mu) (y : denR (resRT rs (extRT ps))), AnShape ps mu → codeLoops (LoopAt P w0 mu n L y) code)
   (hD : ∀ (w0 : World) (mu : Mu), DrawSound (denR (resRT rs (extRT ps))) P T S D w0 mu n okD) (hD2 : codeDraw okD code)
   (hsem : ∀ (w0 : World) (mu : Mu) (c : Cz) (a : Act) (w : World) x, Rel w0 mu c (start n ps x) a w → a.tmps.size = n → ∃ c2 st2, Rel w0 mu c2 st2 a w ∧ codeK T S D L code st2 (finK rs ps) = t x) : FnOk P f (semOf ps rs t) := by
 intro c w mu lc avs args A y hH hA hs ho; unfold semOf at hs
 cases hx : castAs ps avs with
 | none => rw [hx] at hs; cases hs
 | some x =>
   rw [hx] at hs; simp only [Option.some.injEq] at hs; subst hs; have hty : t x = some y := ho; obtain ⟨mu2, c', hm, hok, hshape, hlent, hargs, havs, hR⟩ := start_ok hH hA hx hps; refine calls_of_wp hf hb ?_; rw [hn]; have hsz : (args ++ Array.replicate (n - args.size) undef).size = n := by simp; omega
   obtain ⟨c2, st2, hR2, hsem2⟩ := hsem w mu2 c' _ w x hR hsz; refine codeK_ok (opSound hT hE hS w mu2 n) (hD w mu2) code hdst (hL w mu2 y hshape) hD2 (fun {e} {c1} {st1} {a1} {w1} h1 h2 h3 => ?_) hR2 hsz (hsem2.trans hty); obtain ⟨he, v, hrun, c2, hb2, hV, hX⟩ := fin_ok (P := P) hT hm hok h1 (hres a1.tmps) havs.symm (by rw [← hargs]; simp) hlent h3; have hpost : a1.defers = [] ∧ ∃ v, (results fn a1.tmps).run P w1 = .ok v w1 ∧ (∃ v', Ending.returned v = .returned v' ∧ ∃ c', Bas w mu c' w1 ∧ HoldV c' w1 (outsOf rs (extRT ps) y).1 v' ∧ HoldX c' w1 lc 0 avs args.toList (extsOf ps (outsOf rs (extRT ps) y).2)) :=
     ⟨h1.plain, v, hrun, v, rfl, c2, hb2, hV, hX⟩
   rcases he with rfl | rfl <;> exact hpost
theorem fn_ok {P : Program} {T : Tab} (hT : TabOk P T) (hE : EqOk P T) {S : Sems} (hS : SemsOk P S) {D : Draws} {f : FuncId} {fn : Func} {code : Code} {n : Nat} {ps : List AP} {rs : List RP} {L : Loops (denR (resRT rs (extRT ps)))} {okD : Nat → Array Oper → Prop}
   {t : denR (headRT (ps.map some)) → Option (denR (resRT rs (extRT ps)))}
   (hf : P.funcs[f]? = some fn) (hb : fn.body = some code) (hn : fn.ntmps = n) (hps : ps.length ≤ n) (hdst : codeDst n code = true) (hres : ∀ tm, ResFit T tm fn.results.toList rs)
   (hL : ∀ (w0 : World) (mu : Mu) (y : denR (resRT rs (extRT ps))), AnShape ps mu → codeLoops (LoopAt P w0 mu n L y) code)
   (hD : ∀ (w0 : World) (mu : Mu), DrawSound (denR (resRT rs (extRT ps))) P T S D w0 mu n okD) (hD2 : codeDraw okD code)
   (hsem : ∀ x, codeK T S D L code (start n ps x) (finK rs ps) = t x) : FnOk P f (semOf ps rs t) :=
 fn_ok_at hT hE hS hf hb hn hps hdst hres hL hD hD2 (fun _ _ c _ _ x h _ => ⟨c, _, h, hsem x⟩)
end Go.TM
namespace Go.TM
open Go Go.RowKit
def iter {X E : Type} (round : X → Option (Sum X E)) : Nat → X → Option E
 | 0, _ => none
 | n + 1, x => match round x with
   | some (.inl y) => iter round n y
   | some (.inr e) => some e
   | none => none
theorem iter_mono {X E : Type} {round : X → Option (Sum X E)} : (n : Nat) → {x : X} → {e : E} → iter round n x = some e → ∀ m, n ≤ m → iter round m x = some e
 | 0, _, _, h, _, _ => by cases h
 | n + 1, x, e, h, 0, hm => by omega
 | n + 1, x, e, h, m + 1, hm => by
   unfold iter at h ⊢
   cases hr : round x with
   | none => rw [hr] at h; cases h
   | some z => cases z with
     | inl y => rw [hr] at h; exact iter_mono n h m (by omega)
     | inr e' => rw [hr] at h; exact h
noncomputable def loopV {X E : Type} (round : X → Option (Sum X E)) (x : X) : Option E :=
 have := Classical.propDecidable (∃ e n, iter round n x = some e)
 if h : ∃ e n, iter round n x = some e then some (Classical.choose h) else none
theorem loopV_of {X E : Type} {round : X → Option (Sum X E)} {x : X} {e : E} {n : Nat} (h : iter round n x = some e) : loopV round x = some e := by
 have hex : ∃ e n, iter round n x = some e := ⟨e, n, h⟩; unfold loopV; simp only; rw [dif_pos hex]; obtain ⟨m, hm⟩ := Classical.choose_spec hex; have h1 := iter_mono m hm (max m n) (Nat.le_max_left _ _); have h2 := iter_mono n h (max m n) (Nat.le_max_right _ _); rw [h1] at h2; exact h2
theorem loopV_some {X E : Type} {round : X → Option (Sum X E)} {x : X} {e : E} (h : loopV round x = some e) : ∃ n, iter round n x = some e := by
 unfold loopV at h; simp only at h
 split at h
 · rename_i hex; injection h with h; rw [← h]; exact Classical.choose_spec hex
 · cases h
theorem loopV_eq {X E : Type} (round : X → Option (Sum X E)) (x : X) : loopV round x = match round x with | some (.inl y) => loopV round y | some (.inr e) => some e | none => none := by
 cases hr : round x with
 | none =>
   cases h : loopV round x with
   | none => rfl
   | some e =>
     obtain ⟨n, hn⟩ := loopV_some h
     cases n with
     | zero => cases hn
     | succ n => unfold iter at hn; rw [hr] at hn; cases hn
 | some z => cases z with
   | inr e => exact loopV_of (n := 1) (by unfold iter; rw [hr])
   | inl y =>
     simp only
     cases h : loopV round y with
     | some e =>
       obtain ⟨n, hn⟩ := loopV_some h; exact loopV_of (n := n + 1) (by unfold iter; rw [hr]; exact hn)
     | none =>
       cases h2 : loopV round x with
       | none => rfl
       | some e =>
         obtain ⟨n, hn⟩ := loopV_some h2
         cases n with
         | zero => cases hn
         | succ n =>
           unfold iter at hn; rw [hr] at hn; rw [loopV_of hn] at h
           cases h
def packH (st : St) (hp : List (Option AP)) : Option (denR (headRT hp)) :=
 (packHead st 0 hp).bind fun q => bif noTwice q.2.1 && apart q.2.1 q.2.2 then some q.1 else none
def headSt (hp : List (Option AP)) (x : denR (headRT hp)) : St := slots 0 (heads hp x)
def headFit : List AP → List (Option AP) → Bool
 | [], _ => true
 | .val _ _ :: ps, _ :: hp => headFit ps hp
 | .io _ _ :: ps, o :: hp => (match o with | none => true | some (.io _ _) => true | _ => false) && headFit ps hp
 | .box _ _ :: ps, o :: hp => (match o with | none => true | some (.box l _) => l | some (.val _ _) => true | _ => false) && headFit ps hp
 | .lend _ :: _, _ :: _ => false
 | _ :: _, [] => false
theorem headFit_at : (ps : List AP) → (hp : List (Option AP)) → headFit ps hp = true → ∀ (i : Nat) (p : AP), ps[i]? = some p → ∃ o, hp[i]? = some o ∧ match p with
   | .val _ _ => True
   | .io _ _ => o = none ∨ ∃ r d, o = some (.io r d)
   | .box _ _ => o = none ∨ (∃ a b, o = some (.val a b)) ∨ ∃ b, o = some (.box true b)
   | .lend _ => False
 | [], _, _ => by intro i p h; simp at h
 | p :: ps, [], h => by cases p <;> simp [headFit] at h
 | p :: ps, o :: hp, h => by
   intro i p' hi; have hrest : headFit ps hp = true := by
     cases p with
     | val _ _ => exact h
     | io _ => unfold headFit at h; rw [Bool.and_eq_true] at h; exact h.2
     | lend _ => cases h
     | box _ _ => unfold headFit at h; rw [Bool.and_eq_true] at h; exact h.2
   cases i with
   | succ i => exact (headFit_at ps hp hrest i p' (by simpa using hi)).imp fun o ho => ⟨by simpa using ho.1, ho.2⟩
   | zero =>
     simp only [List.getElem?_cons_zero, Option.some.injEq] at hi; subst hi; refine ⟨o, rfl, ?_⟩
     cases p with
     | val _ _ => trivial
     | lend _ => cases h
     | io _ =>
       unfold headFit at h; rw [Bool.and_eq_true] at h
       cases o with
       | none => exact .inl rfl
       | some q => cases q with
         | io r d => exact .inr ⟨r, d, rfl⟩
         | val _ _ => cases h.1
         | box _ _ => cases h.1
         | lend _ => cases h.1
     | box _ _ =>
       unfold headFit at h; rw [Bool.and_eq_true] at h
       cases o with
       | none => exact .inl rfl
       | some q => cases q with
         | io r d => cases h.1
         | lend _ => cases h.1
         | val a b => exact .inr (.inl ⟨a, b, rfl⟩)
         | box l b =>
           have : l = true := h.1; subst this; exact .inr (.inr ⟨b, rfl⟩)
end Go.TM
namespace Go.TM
open Go Go.RowKit
theorem packA_io {st : St} {k : Nat} {rr : RT} {dd : Md} {t : RT} {V : V} {y : denR t} {x : denR (.cons (.sl rr) t)} {u : List Lb} {r : List (Nat × Nat)} (h : packA st k (.io rr dd) t V y = some (x, u, r)) : ∃ A, arr? st k 0 1 = some A ∧ castL rr A.xs = some x.1 := by
 cases V with
 | agg _ => cases h
 | tup _ => cases h
 | one cx => cases cx with
   | ref a j g vw => cases vw with
     | full =>
       have h : (bif Nat.beq a k && (Nat.beq j 0 && Nat.beq g 1) then ((arr? st a j g).bind fun A => bif A.own && A.md.is dd then (castL rr A.xs).map fun xs => ((xs, y), [Lb.sp a j], ([] : List (Nat × Nat))) else none) else none) = some (x, u, r) := h; obtain ⟨h1, h2⟩ := bif_some h; rw [Bool.and_eq_true, Bool.and_eq_true] at h1; have e1 := Nat.eq_of_beq_eq_true h1.1; have e2 := Nat.eq_of_beq_eq_true h1.2.1; have e3 := Nat.eq_of_beq_eq_true h1.2.2; subst e1 e2 e3; obtain ⟨A, hA, h3⟩ := Option.bind_eq_some_iff.1 h2; obtain ⟨_, h4⟩ := bif_some h3; obtain ⟨xs, hxs, e⟩ := Option.map_eq_some_iff.1 h4; injection e with e _; exact ⟨A, hA, by rw [hxs, ← e]; rfl⟩
     | «from» _ => cases h
     | sub _ _ => cases h
   | _ => cases h
theorem packA_box {st : St} {k : Nat} {qs : List OP} {t : RT} {V : V} {y : denR t} {x : denR (opsRT qs t)} {u : List Lb} {r : List (Nat × Nat)} (h : packA st k (.box true qs) t V y = some (x, u, r)) : V = .one (.ptr k 1 0) ∧ ∃ cs, box? st k 1 = some cs := by
 cases V with
 | agg _ => cases h
 | tup _ => cases h
 | one cx => cases cx with
   | ptr b g off =>
     have h : (bif Nat.beq off 0 && (!true || (Nat.beq b k && Nat.beq g 1)) then ((box? st b g).bind fun cs => (packL st qs t cs y).map fun q => (q.1, Lb.box b :: somes q.2.1, q.2.2)) else none) = some (x, u, r) := h; obtain ⟨h1, h2⟩ := bif_some h; simp only [Bool.not_true, Bool.false_or] at h1; rw [Bool.and_eq_true, Bool.and_eq_true] at h1; have e1 := Nat.eq_of_beq_eq_true h1.1; have e2 := Nat.eq_of_beq_eq_true h1.2.1; have e3 := Nat.eq_of_beq_eq_true h1.2.2; subst e1 e2 e3; obtain ⟨cs, hcs, _⟩ := Option.bind_eq_some_iff.1 h2; exact ⟨rfl, cs, hcs⟩
   | _ => cases h
theorem packHead_at {w0 : World} {mu : Mu} {c : Cz} {st : St} {a : Act} {w : World} (h : Rel w0 mu c st a w) : (l : List (Option AP)) → (k : Nat) → {x : denR (headRT l)} → {u : List Lb} → {r : List (Nat × Nat)} → packHead st k l = some (x, u, r) → ∀ (i : Nat),
   (∀ rr dd, l[i]? = some (some (.io rr dd)) → ∃ B A : Arr, (heads l x)[i]? = some (some (.io B)) ∧ arr? st (k + i) 0 1 = some A ∧ B.r.width = A.r.width ∧ B.xs.length = A.xs.length) ∧
   (∀ qs, l[i]? = some (some (.box true qs)) → (∃ cs, box? st (k + i) 1 = some cs) ∧ getV st (k + i) = .one (.ptr (k + i) 1 0)) ∧
   (l[i]? = some none → (heads l x)[i]? = some none) ∧ (∀ ag b, l[i]? = some (some (.val ag b)) → ∃ os, (heads l x)[i]? = some (some (.val ag os)))
 | [], k, x, u, r, he => by intro i; simp
 | none :: l, k, x, u, r, he => by
   intro i
   cases i with
   | zero => exact ⟨fun _ _ h => by simp at h, fun _ h => by simp at h, fun _ => rfl, fun _ _ h => by simp at h⟩
   | succ i =>
     have := packHead_at h l (k + 1) he i; rw [show k + 1 + i = k + (i + 1) by omega] at this; exact this
 | some p :: l, k, x, u, r, he => by
   intro i; unfold packHead at he
   cases h1 : packHead st (k + 1) l with
   | none => simp [h1] at he
   | some q1 =>
     obtain ⟨y, us, rs⟩ := q1; simp only [h1] at he
     cases h2 : packA st k p (headRT l) (getV st k) y with
     | none => simp [h2] at he
     | some q2 =>
       obtain ⟨x1, u1, r1⟩ := q2; simp only [h2] at he; injection he with he; injection he with e1 e2; subst e1
       cases i with
       | succ i =>
         have hh := packHead_at h l (k + 1) h1 i; rw [show k + 1 + i = k + (i + 1) by omega] at hh; have e : (p.av (headRT l) x1).2 = y := (packA_ok h k (h.regs k) h2).1; have e2 : (heads (some p :: l) x1)[i + 1]? = (heads l y)[i]? := by
           show (heads l (p.av (headRT l) x1).2)[i]? = _; rw [e]
         rw [e2]; exact hh
       | zero =>
         have e2 : (heads (some p :: l) x1)[0]? = some (some (p.av (headRT l) x1).1) := rfl; rw [e2]; simp only [List.getElem?_cons_zero, Option.some.injEq, Nat.add_zero]; refine ⟨fun rr dd e => ?_, fun qs e => ?_, (fun e => by cases e), fun ag b e => ?_⟩
         · subst e; obtain ⟨A, hA, hc⟩ := packA_io h2; obtain ⟨er, exs⟩ := castL_some hc; refine ⟨_, A, rfl, hA, by show rr.width = _; rw [← er], ?_⟩; show List.length (x1.1 : List (denR rr)) = _; rw [exs]
           cases er
           rfl
         · subst e; obtain ⟨q1, q2⟩ := packA_box h2; exact ⟨q2, q1⟩
         · subst e; exact ⟨_, rfl⟩
end Go.TM
namespace Go.TM
open Go Go.RowKit
theorem rehead {w0 : World} {mu : Mu} {c : Cz} {st : St} {a : Act} {w : World} (h : Rel w0 mu c st a w) {ps : List AP} (hs : AnShape ps mu) {hp : List (Option AP)} (hfit : headFit ps hp = true) {x : denR (headRT hp)} (hx : packH st hp = some x) : ∃ c', Rel w0 mu c' (headSt hp x) a w := by
 obtain ⟨q, hq, hx1⟩ := Option.bind_eq_some_iff.1 hx; obtain ⟨hchk, hx2⟩ := bif_some hx1; injection hx2 with hx2; obtain ⟨x0, u, r⟩ := q; subst hx2; rw [Bool.and_eq_true] at hchk; obtain ⟨hreal, tb, htb1, htb2, hold⟩ := packHead_ok h hp 0 hq; have hat := packHead_at h hp 0 hq; have hnd := noTwice_nodup _ hreal hchk.1; have hap : ∀ p ∈ r, Lb.sp p.1 p.2 ∉ u := by
   intro p hp hm; have h1 := List.all_eq_true.1 hchk.2 p hp; have h2 := List.all_eq_true.1 h1 _ hm; rw [(Lb.same_iff rfl).2 rfl] at h2
   cases h2
 have hcl := Classical.propDecidable
 let ρ : Lb → Option Lb := fun l => match look tb l with | some y => some y | none => if l = .out then some .out else none
 have hρt : ∀ p ∈ tb, ρ p.1 = some p.2 := by
   intro p hp; have := look_mem tb (by rw [htb1]; exact hnd) hp; show (match look tb p.1 with | some y => some y | none => _) = _; rw [this]
 have hlook : ∀ {l y}, look tb l = some y → l ∈ u := by
   intro l y hl; have := look_some tb hl; rw [← htb1]; exact List.mem_map.2 ⟨_, this, rfl⟩
 have hρr : ∀ p ∈ r, ρ (.sp p.1 p.2) = none := by
   intro p hp; show (match look tb (.sp p.1 p.2) with | some y => some y | none => if Lb.sp p.1 p.2 = .out then some Lb.out else none) = none
   cases hl : look tb (.sp p.1 p.2) with
   | some y => exact absurd (hlook hl) (hap p hp)
   | none => simp
 have hρo : ρ .out = some .out := by
   show (match look tb Lb.out with | some y => some y | none => if Lb.out = Lb.out then some Lb.out else none) = _
   cases hl : look tb Lb.out with
   | some y => have := hreal _ (hlook hl); cases this
   | none => simp
 have hbas : Bas w0 mu (c.map ρ) w := by
   refine ⟨fun b l hb => ?_, fun b hb hn => ?_, h.kept, h.old⟩
   · obtain ⟨k, hk, e⟩ := Cz.map_some hb; obtain ⟨g1, g2⟩ := h.owned b k hk; refine ⟨g1, g2.imp (fun e2 => ?_) id⟩; subst e2; rw [hρo] at e
     cases e; rfl
   · cases hk : c.own b with
     | none => exact h.free b hb hk
     | some k =>
       have e : ρ k = none := (Cz.map_own (ρ := ρ) hk).symm.trans hn; rcases (h.owned b k hk).2 with g | g | g
       · subst g; rw [hρo] at e; cases e
       · exact absurd g (Nat.not_le_of_lt hb)
       · exact .inl g
 refine Rel.scratch hbas h.plain (hold ρ hρt hρr) (fun p hpm => ?_); have han := h.anch p hpm; have hlen : ∀ (i : Nat) (o : Option AP), hp[i]? = some o → i < (heads hp x0).length := fun i o ho => by rw [heads_length]; exact (List.getElem?_eq_some_iff.1 ho).1
 rcases hs p hpm with ⟨i, rr, W, n, l, rfl, dd, hpi⟩ | ⟨i, blk, b, qs, rfl, hpi⟩ | ⟨i, j, W, n, l, qs, rfl, hpi⟩
 · obtain ⟨o, ho, ho2⟩ := headFit_at ps hp hfit i _ hpi; refine ⟨rfl, hlen i o ho, fun av hav => .inl ?_⟩; rcases ho2 with rfl | ⟨r2, d2, rfl⟩
   · rw [(hat i).2.2.1 ho] at hav; cases hav
   · obtain ⟨B, A, e1, e2, e3, e4⟩ := (hat i).1 r2 d2 ho; rw [e1] at hav; simp only [Option.some.injEq] at hav; rw [Nat.zero_add] at e2; obtain ⟨f1, f2, f3⟩ := han.2 A e2; exact ⟨B, hav.symm, fun _ => ⟨e3.trans f1, e4.trans f2, f3⟩⟩
 · obtain ⟨o, ho, ho2⟩ := headFit_at ps hp hfit i _ hpi; refine ⟨rfl, hlen i o ho, fun os hos => ?_⟩; rcases ho2 with rfl | ⟨a1, b1, rfl⟩ | ⟨b1, rfl⟩
   · rw [(hat i).2.2.1 ho] at hos; cases hos
   · obtain ⟨os', e⟩ := (hat i).2.2.2 a1 b1 ho; rw [e] at hos; cases hos
   · obtain ⟨⟨cs, hcs⟩, hv⟩ := (hat i).2.1 b1 ho; rw [Nat.zero_add] at hcs hv; have hreg := h.regs i; rw [hv] at hreg; rw [hreg.2.2 cs hcs, han.2 cs hcs]
 · obtain ⟨o, ho, ho2⟩ := headFit_at ps hp hfit i _ hpi; exact ho2.elim
def roundK (id : Nat) (hp e0 e1 : List (Option AP)) : Ex → St → Option (Sum (denR (headRT hp)) (Sum (denR (headRT e0)) (denR (headRT e1))))
 | .normal, st => (packH st hp).map .inl
 | .exit m, st => bif Nat.beq m id then (packH st e0).map fun y => .inr (.inl y) else none
 | .ret, st => (packH st e1).map fun y => .inr (.inr y)
noncomputable def loopAt {R : Type} (hp e0 e1 : List (Option AP)) (round : denR (headRT hp) → Option (Sum (denR (headRT hp)) (Sum (denR (headRT e0)) (denR (headRT e1))))) (st : St) (k : Ex → St → Option R) : Option R :=
 (packH st hp).bind fun x => (loopV round x).bind fun z => match z with
   | .inl y => k .normal (headSt e0 y)
   | .inr y => k .ret (headSt e1 y)
theorem loop_ok {R : Type} {P : Program} {T : Tab} {S : Sems} {D : Draws} {n id : Nat} {w0 : World} {mu : Mu} {ps : List AP} {hp e0 e1 : List (Option AP)} {b : Code} {r : R} {L : Loops R} {okD : Nat → Array Oper → Prop}
   {L' : Loops (Sum (denR (headRT hp)) (Sum (denR (headRT e0)) (denR (headRT e1))))} {round : denR (headRT hp) → Option (Sum (denR (headRT hp)) (Sum (denR (headRT e0)) (denR (headRT e1))))}
   (hop : OpSound P T S w0 mu n) (hD : DrawSound (Sum (denR (headRT hp)) (Sum (denR (headRT e0)) (denR (headRT e1)))) P T S D w0 mu n okD) (hs : AnShape ps mu) (hf : (headFit ps hp && (headFit ps e0 && headFit ps e1)) = true) (hdst : codeDst n b = true) (hD2 : codeDraw okD b)
   (hin : ∀ z, codeLoops (LoopAt P w0 mu n L' z) b) (hround : ∀ x, codeK T S D L' b (headSt hp x) (roundK id hp e0 e1) = round x) (hL : ∀ st k, L id b st k = loopAt hp e0 e1 round st k) : LoopAt P w0 mu n L r id b := by
 intro k Q hk c st a w h hn hv; rw [Bool.and_eq_true, Bool.and_eq_true] at hf; rw [hL] at hv; unfold loopAt at hv; obtain ⟨x, hx, hv⟩ := Option.bind_eq_some_iff.1 hv; obtain ⟨z, hz, hv⟩ := Option.bind_eq_some_iff.1 hv; obtain ⟨c1, h1⟩ := rehead h hs hf.1 hx; obtain ⟨m, hm⟩ := loopV_some hz; refine wp_block ?_; refine wp_loop_ghost (fun m a w => ∃ x c, Rel w0 mu c (headSt hp x) a w ∧ a.tmps.size = n ∧ iter round m x = some z) m ⟨x, c1, h1, hn, hm⟩ ?_
 rintro m a w ⟨x, c, hR, hn, hi⟩
 cases m with
 | zero => cases hi
 | succ m =>
   unfold iter at hi
   cases hr : round x with
   | none => rw [hr] at hi; cases hi
   | some y =>
     rw [hr] at hi; refine codeK_ok hop hD b hdst (hin y) hD2 (fun {e} {c2} {st2} {a2} {w2} g1 g2 g3 => ?_) hR hn ((hround x).trans hr)
     cases e with
     | normal =>
       obtain ⟨x2, q1, rfl⟩ := Option.map_eq_some_iff.1 g3; obtain ⟨c3, g4⟩ := rehead g1 hs hf.1 q1; exact ⟨m, Nat.lt_succ_self m, x2, c3, g4, g2, hi⟩
     | exit m' =>
       obtain ⟨hid, g5⟩ := bif_some g3; have hid := Nat.eq_of_beq_eq_true hid; subst hid; obtain ⟨x2, q1, rfl⟩ := Option.map_eq_some_iff.1 g5; injection hi with hi; subst hi; obtain ⟨c3, g4⟩ := rehead g1 hs hf.2.1 q1; show (if m' = m' then Q .normal a2 w2 else Q (.exit m') a2 w2); rw [if_pos rfl]; exact hk g4 g2 hv
     | ret =>
       obtain ⟨x2, q1, rfl⟩ := Option.map_eq_some_iff.1 g3; injection hi with hi; subst hi; obtain ⟨c3, g4⟩ := rehead g1 hs hf.2.2 q1; exact hk g4 g2 hv
end Go.TM
namespace Go.TM
open Go Go.RowKit
section
variable {P : Program} {ops : Array Oper} {Q : Exit → Act → World → Prop} {md : Region.Mode} {ds : List Nat}
def reachB (md : Region.Mode) (ops : Array Oper) (i : Nat) : Nat → Nat → Bool
 | 0, _ => false
 | fuel + 1, d => match ops[d]? with
   | some o => o.after.any fun e => Region.binds md e && (e.on == i || reachB md ops i fuel e.on)
   | none => false
def ShutUp (md : Region.Mode) (ops : Array Oper) (listed : Array Bool) : Prop :=
 ∀ j oj, ops[j]? = some oj → listed.getD j false = true → ∀ e ∈ oj.after, Region.binds md e = true → listed.getD e.on false = true
theorem ShutUp.set {listed : Array Bool} {i : Nat} (h : ShutUp md ops listed) (hi : i ∈ Region.ready md ops listed) : ShutUp md ops (listed.setIfInBounds i true) := by
 obtain ⟨_, oi, hoi, hall⟩ := mem_ready.1 hi; intro j oj hj hl e he hb
 by_cases hij : i = j
 · subst hij; have : oj = oi := Option.some.inj (hj.symm.trans hoi); subst this; exact getD_set_true (hall e he hb)
 · rw [getD_set_ne false hij] at hl; exact getD_set_true (h j oj hj hl e he hb)
theorem ShutUp.none (md : Region.Mode) (ops : Array Oper) (n : Nat) : ShutUp md ops (Array.replicate n false) := by
 intro j oj _ hl; simp [Array.getD_eq_getD_getElem?, Array.getElem?_replicate] at hl
 split at hl <;> simp at hl
theorem reach_listed {listed : Array Bool} {i : Nat} (hc : ShutUp md ops listed) : ∀ (fuel d : Nat), reachB md ops i fuel d = true → listed.getD d false = true → listed.getD i false = true
 | 0, _, h, _ => by simp [reachB] at h
 | fuel + 1, d, h, hl => by
   unfold reachB at h
   cases ho : ops[d]? with
   | none => rw [ho] at h; simp at h
   | some o =>
     rw [ho] at h; obtain ⟨e, he, h1⟩ := Array.any_eq_true'.1 h; simp only [Bool.and_eq_true, Bool.or_eq_true, beq_iff_eq] at h1; have hle := hc d o ho hl e he h1.1; rcases h1.2 with h2 | h2
     · rw [← h2]; exact hle
     · exact reach_listed hc fuel e.on h2 hle
theorem reach_not_ready {listed : Array Bool} {i d fuel : Nat} (hc : ShutUp md ops listed) (hr : reachB md ops i fuel d = true) (hun : listed.getD i true = false) : d ∉ Region.ready md ops listed := by
 intro hd; obtain ⟨_, o, ho, hall⟩ := mem_ready.1 hd; have hi : listed.getD i false = true := by
   cases fuel with
   | zero => simp [reachB] at hr
   | succ n =>
     unfold reachB at hr; rw [ho] at hr; obtain ⟨e, he, h1⟩ := Array.any_eq_true'.1 hr; simp only [Bool.and_eq_true, Bool.or_eq_true, beq_iff_eq] at h1; have hle := hall e he h1.1; rcases h1.2 with h2 | h2
     · rw [← h2]; exact hle
     · exact reach_listed hc n e.on h2 hle
 rcases Nat.lt_or_ge i listed.size with h' | h'
 · simp [h'] at hun hi; rw [hun] at hi
   cases hi
 · simp [Array.getElem?_eq_none h'] at hun
def wpAnyK (P : Program) (md : Region.Mode) (ops : Array Oper) (Q : Exit → Act → World → Prop) (ds : List Nat) : Nat → Array Bool → Act → World → Prop
 | 0, listed, a, w => Region.ready md ops listed = [] ∧ Q .normal a w
 | fuel + 1, listed, a, w =>
   (Region.ready md ops listed = [] → Q .normal a w) ∧
   ∀ i ∈ Region.ready md ops listed, wpOp P ops Q i (fun a' w' => (i ∉ ds → Keep w w') ∧ wpAnyK P md ops Q ds fuel (listed.setIfInBounds i true) a' w') a w
theorem wpAny_of_keep : ∀ (fuel : Nat) (listed : Array Bool) (a : Act) (w : World), wpAnyK P md ops Q ds fuel listed a w → wpAny P md ops Q fuel listed a w
 | 0, _, _, _, h => h
 | fuel + 1, _, _, _, h => ⟨h.1, fun i hi => wpOp_mono (fun a' w' h' => wpAny_of_keep fuel _ a' w' h'.2) (h.2 i hi)⟩
theorem wpAnyK_first {i : Nat} {oi : Oper} {v : Value} {w0 : World} (hi : ops[i]? = some oi) (hsel : ∀ (j : Nat) (o : Oper) cs b, ops[j]? = some o → o.op ≠ .select cs b)
   (hQ : ∀ c a w, Q (.panic c) (a.put oi.dst v) w → Q (.panic c) a w) (n : Nat) :
   ∀ (fuel : Nat) (listed : Array Bool) (a : Act) (w : World),
     (∀ j oj, ops[j]? = some oj → j ≠ i → listed.getD j true = false → (∀ e ∈ oj.after, Region.binds md e = true → e.on ≠ i) → oi.apart ops oj = true) →
     ShutUp md ops listed → (∀ d ∈ ds, listed.getD d true = false → reachB md ops i n d = true) →
     i ∈ Region.ready md ops listed → YieldsIf P ops (Keep w0) oi v a → Keep w0 w →
     wpAnyK P md ops Q ds fuel (listed.setIfInBounds i true) (a.put oi.dst v) w → wpAnyK P md ops Q ds (fuel + 1) listed a w := by
 intro fuel
 induction fuel with
 | zero =>
   intro listed a w _ _ _ hr hy hS H; refine ⟨fun h => (by rw [h] at hr; cases hr), fun j hj => ?_⟩
   by_cases hji : j = i
   · subst hji; exact hy.wpOp hi hS ⟨fun _ => Keep.refl w, H⟩
   · have := ready_mono hj hji; rw [H.1] at this
     cases this
 | succ fuel ih =>
   intro listed a w hfree hc hd hr hy hS H; refine ⟨fun h => (by rw [h] at hr; cases hr), fun j hj => ?_⟩
   by_cases hji : j = i
   · subst hji; exact hy.wpOp hi hS ⟨fun _ => Keep.refl w, H⟩
   · have h1 := H.2 j (ready_mono hj hji); obtain ⟨hjun, oj, hoj, hall⟩ := mem_ready.1 hj; have hiun := (mem_ready.1 hr).1; have hnot : ∀ e ∈ oj.after, Region.binds md e = true → e.on ≠ i := fun e he hb heq => by
       have h1 := hall e he hb; rw [heq] at h1; rcases Nat.lt_or_ge i listed.size with h' | h'
       · simp [h'] at hiun h1; rw [hiun] at h1; cases h1
       · simp [Array.getElem?_eq_none h'] at h1
     have hjd : j ∉ ds := fun hm => reach_not_ready hc (hd j hm hjun) hiun hj
     have h2 := wpOp_putIf hoj (hfree j oj hoj hji hjun hnot) (fun cs b => hsel i oi cs b hi) (fun cs b => hsel j oj cs b hoj) hQ hy h1; have hfree' : ∀ k ok, ops[k]? = some ok → k ≠ i → (listed.setIfInBounds j true).getD k true = false →
         (∀ e ∈ ok.after, Region.binds md e = true → e.on ≠ i) → oi.apart ops ok = true := fun k ok hk hki hun hno => by
       refine hfree k ok hk hki ?_ hno
       by_cases hjk : j = k
       · subst hjk; exact hjun
       · rw [getD_set_ne true hjk] at hun; exact hun
     have hd' : ∀ d ∈ ds, (listed.setIfInBounds j true).getD d true = false → reachB md ops i n d = true := fun d hm hun => by
       refine hd d hm ?_
       by_cases hjk : j = d
       · subst hjk; exact hjun
       · rw [getD_set_ne true hjk] at hun; exact hun
     refine wpOp_mono (fun a' w' h3 => ⟨h3.2.1, ih (listed.setIfInBounds j true) a' w' hfree' (hc.set hj) hd' (ready_mono hr (Ne.symm hji)) h3.1 (hS.trans (h3.2.1 hjd)) ?_⟩) h2; rw [Array.setIfInBounds_comm _ _ hji]; exact h3.2.2
theorem wpAnyK_any {i : Nat} {oi : Oper} {v : Value} (hi : ops[i]? = some oi) (hsel : ∀ (j : Nat) (o : Oper) cs b, ops[j]? = some o → o.op ≠ .select cs b)
   (hQ : ∀ c a w, Q (.panic c) (a.put oi.dst v) w → Q (.panic c) a w) :
   ∀ (fuel : Nat) (listed : Array Bool) (a : Act) (w : World),
     (∀ j oj, ops[j]? = some oj → j ≠ i → listed.getD j true = false → (∀ e ∈ oj.after, Region.binds md e = true → e.on ≠ i) → oi.apart ops oj = true) →
     i ∈ Region.ready md ops listed → Yields P ops oi v a →
     wpAnyK P md ops Q ds fuel (listed.setIfInBounds i true) (a.put oi.dst v) w → wpAnyK P md ops Q ds (fuel + 1) listed a w := by
 intro fuel
 induction fuel with
 | zero =>
   intro listed a w _ hr hy H; refine ⟨fun h => (by rw [h] at hr; cases hr), fun j hj => ?_⟩
   by_cases hji : j = i
   · subst hji; exact (hy.yieldsIf (S := fun _ => True)).wpOp hi trivial ⟨fun _ => Keep.refl w, H⟩
   · have := ready_mono hj hji; rw [H.1] at this
     cases this
 | succ fuel ih =>
   intro listed a w hfree hr hy H; refine ⟨fun h => (by rw [h] at hr; cases hr), fun j hj => ?_⟩
   by_cases hji : j = i
   · subst hji; exact (hy.yieldsIf (S := fun _ => True)).wpOp hi trivial ⟨fun _ => Keep.refl w, H⟩
   · have h1 := H.2 j (ready_mono hj hji); obtain ⟨hjun, oj, hoj, hall⟩ := mem_ready.1 hj; have hiun := (mem_ready.1 hr).1; have hnot : ∀ e ∈ oj.after, Region.binds md e = true → e.on ≠ i := fun e he hb heq => by
       have h1 := hall e he hb; rw [heq] at h1; rcases Nat.lt_or_ge i listed.size with h' | h'
       · simp [h'] at hiun h1; rw [hiun] at h1; cases h1
       · simp [Array.getElem?_eq_none h'] at h1
     have h2 := wpOp_put hoj (hfree j oj hoj hji hjun hnot) (fun cs b => hsel i oi cs b hi) (fun cs b => hsel j oj cs b hoj) hQ hy h1; have hfree' : ∀ k ok, ops[k]? = some ok → k ≠ i → (listed.setIfInBounds j true).getD k true = false →
         (∀ e ∈ ok.after, Region.binds md e = true → e.on ≠ i) → oi.apart ops ok = true := fun k ok hk hki hun hno => by
       refine hfree k ok hk hki ?_ hno
       by_cases hjk : j = k
       · subst hjk; exact hjun
       · rw [getD_set_ne true hjk] at hun; exact hun
     refine wpOp_mono (fun a' w' h3 => ⟨h3.2.1, ih (listed.setIfInBounds j true) a' w' hfree' (ready_mono hr (Ne.symm hji)) h3.1 ?_⟩) h2; rw [Array.setIfInBounds_comm _ _ hji]; exact h3.2.2
end
end Go.TM
namespace Go.TM
open Go Go.RowKit
def memB (i : Nat) : List Nat → Bool
 | [] => false
 | x :: l => Nat.beq x i || memB i l
def upB (ops : List Oper) (ls : List Nat) (j : Nat) : Bool :=
 match nth ops j with
 | some o => !memB j ls && o.after.toList.all fun e => !Region.binds .any e || memB e.on ls
 | none => false
def freeB (ops : Array Oper) (opl : List Oper) (n : Nat) (ls : List Nat) (i : Nat) : Bool :=
 match nth opl i with
 | some oi => (List.range n).all fun j => Nat.beq j i || (memB j ls || match nth opl j with
   | some oj => (oj.after.toList.any fun e => Region.binds .any e && Nat.beq e.on i) || oi.apart ops oj
   | none => true)
 | none => false
def aloneB (opl : List Oper) (n : Nat) (ls : List Nat) (i : Nat) : Bool := (List.range n).all fun j => Nat.beq j i || !upB opl ls j
def Pl.heads : Pl → List Nat
 | .nil => []
 | .op i _ _ => [i]
 | .alt p q => p.heads ++ q.heads
def coverB (opl : List Oper) (n : Nat) (ls hs : List Nat) : Bool := (List.range n).all fun j => !upB opl ls j || memB j hs
def drawB (ops : Array Oper) (opl : List Oper) (n : Nat) (ds : List Nat) : Bool → List Nat → Pl → Bool
 | al, ls, .nil => !al && (List.range n).all fun j => !upB opl ls j
 | al, ls, .op i kd r => upB opl ls i && ((match kd with
     | .any => !al && freeB ops opl n ls i
     | .take => !al && (freeB ops opl n ls i && ds.all fun d => memB d ls || reachB .any ops i n d)
     | .one => al || aloneB opl n ls i
     | .last => (al || aloneB opl n ls i) && memB i ds) && drawB ops opl n ds false (i :: ls) r)
 | al, ls, .alt p q => (al || coverB opl n ls (p.heads ++ q.heads)) && (drawB ops opl n ds true ls p && drawB ops opl n ds true ls q)
def lasts : Pl → List Nat
 | .nil => []
 | .op i .last l => i :: lasts l
 | .op _ _ l => lasts l
 | .alt p q => lasts p ++ lasts q
def Pl.depth : Pl → Nat
 | .nil => 0
 | .op _ _ l => l.depth + 1
 | .alt p q => Nat.max p.depth q.depth
def drawOk (ops : Array Oper) (l : Pl) : Bool :=
 Region.noSelect ops && (Nat.ble l.depth ops.size && drawB ops ops.toList ops.size (lasts l) false [] l)
structure Lst (n : Nat) (ls : List Nat) (listed : Array Bool) : Prop where
 size : listed.size = n
 gf : ∀ j, listed.getD j false = memB j ls
 gt : ∀ j, listed.getD j true = (memB j ls || decide (n ≤ j))
theorem Lst.push {n : Nat} {ls : List Nat} {listed : Array Bool} (h : Lst n ls listed) {i : Nat} (hi : i < n) : Lst n (i :: ls) (listed.setIfInBounds i true) where
 size := by simp [h.size]
 gf := fun j => by
   unfold memB
   by_cases e : i = j
   · subst e; have : Nat.beq i i = true := Nat.beq_refl i; rw [this]; simp [h.size, hi]
   · rw [getD_set_ne false e, h.gf j]; have : Nat.beq i j = false := by
       cases hq : Nat.beq i j
       · rfl
       · exact absurd (Nat.eq_of_beq_eq_true hq) e
     simp [this]
 gt := fun j => by
   unfold memB
   by_cases e : i = j
   · subst e; simp [h.size, hi]
   · rw [getD_set_ne true e, h.gt j]; have : Nat.beq i j = false := by
       cases hq : Nat.beq i j
       · rfl
       · exact absurd (Nat.eq_of_beq_eq_true hq) e
     simp [this]
theorem Lst.none (n : Nat) : Lst n [] (Array.replicate n false) where
 size := by simp
 gf := fun j => by
   simp only [Array.getD_eq_getD_getElem?, Array.getElem?_replicate, memB]
   split <;> rfl
 gt := fun j => by
   simp only [Array.getD_eq_getD_getElem?, Array.getElem?_replicate, memB]
   split
   · rename_i h; simp; omega
   · rename_i h; simp; omega
theorem upB_iff {ops : Array Oper} {ls : List Nat} {listed : Array Bool} (h : Lst ops.size ls listed) (j : Nat) : upB ops.toList ls j = true ↔ j ∈ Region.ready .any ops listed := by
 rw [mem_ready]; unfold upB; rw [nth_eq, Array.getElem?_toList, h.gt j]
 cases ho : ops[j]? with
 | none => simp
 | some o =>
   have hlt : j < ops.size := (Array.getElem?_eq_some_iff.1 ho).1; have hn : decide (ops.size ≤ j) = false := by simp; omega
   simp only [hn, Bool.or_false, Bool.and_eq_true, Bool.not_eq_true', List.all_eq_true, Array.mem_toList_iff, Bool.or_eq_true, Option.some.injEq, exists_eq_left', h.gf]
   constructor
   · rintro ⟨h0, h1⟩
     exact ⟨h0, fun e he hb => (h1 e he).resolve_left (by simp [hb])⟩
   · rintro ⟨h0, h1⟩
     refine ⟨h0, fun e he => ?_⟩
     cases hb : Region.binds .any e
     · exact .inl rfl
     · exact .inr (h1 e he hb)
theorem beq_of_ne {i j : Nat} (h : i ≠ j) : Nat.beq i j = false := by
 cases hq : Nat.beq i j
 · rfl
 · exact absurd (Nat.eq_of_beq_eq_true hq) h
theorem freeB_spec {ops : Array Oper} {ls : List Nat} {listed : Array Bool} (h : Lst ops.size ls listed) {i : Nat} {oi : Oper} (hi : ops[i]? = some oi) (hf : freeB ops ops.toList ops.size ls i = true) :
   ∀ j oj, ops[j]? = some oj → j ≠ i → listed.getD j true = false → (∀ e ∈ oj.after, Region.binds .any e = true → e.on ≠ i) → oi.apart ops oj = true := by
 intro j oj hj hji hun hno; unfold freeB at hf; rw [nth_eq, Array.getElem?_toList, hi] at hf; have hlt : j < ops.size := (Array.getElem?_eq_some_iff.1 hj).1; have h1 := List.all_eq_true.1 hf j (List.mem_range.2 hlt); rw [nth_eq, Array.getElem?_toList, hj, beq_of_ne hji, Bool.false_or] at h1; rw [h.gt j, Bool.or_eq_false_iff] at hun; rw [hun.1, Bool.false_or, Bool.or_eq_true] at h1; rcases h1 with h1 | h1
 · obtain ⟨e, he, h2⟩ := List.any_eq_true.1 h1; rw [Bool.and_eq_true] at h2; exact absurd (Nat.eq_of_beq_eq_true h2.2) (hno e (Array.mem_toList_iff.1 he) h2.1)
 · exact h1
theorem aloneB_spec {ops : Array Oper} {ls : List Nat} {listed : Array Bool} (h : Lst ops.size ls listed) {i : Nat} (hf : aloneB ops.toList ops.size ls i = true) : ∀ j ∈ Region.ready .any ops listed, j = i := by
 intro j hj; have hlt : j < ops.size := by
   obtain ⟨_, o, ho, _⟩ := mem_ready.1 hj; exact (Array.getElem?_eq_some_iff.1 ho).1
 have h1 := List.all_eq_true.1 hf j (List.mem_range.2 hlt); rw [(upB_iff h j).2 hj, Bool.not_true, Bool.or_false] at h1; exact Nat.eq_of_beq_eq_true h1
theorem guard_yields {P : Program} {T : Tab} {S : Sems} {w0 : World} {mu : Mu} {c : Cz} {st st' : St} {a : Act} {w : World} {ops : Array Oper} {o : Oper} {C : World → Prop} (h : Rel w0 mu c st a w)
   (hd : ∀ k, o.dst = some k → k < a.tmps.size) (hv : (guardN T S ops.toList st o).val = some st')
   (base : (opN T S st o).val = some st' → ∃ v, (∀ w' : World, C w' → (execOp a.eval o).run P w' = .ok (.value v) w') ∧ Rel w0 mu c st' (a.put o.dst v) w) :
   ∃ v, YieldsIf P ops C o v a ∧ Rel w0 mu c st' (a.put o.dst v) w := by
 unfold guardN at hv; unfold YieldsIf Region.wanted
 cases hg : o.guard with
 | none =>
   simp only [hg] at hv ⊢; obtain ⟨v, h1, h2⟩ := base hv; exact ⟨v, .inl ⟨trivial, h1⟩, h2⟩
 | some p =>
   obtain ⟨j, want⟩ := p; simp only [hg] at hv ⊢
   cases hj : (nth ops.toList j).bind (·.dst) with
   | none => simp [hj, N.val] at hv
   | some d =>
     simp only [hj] at hv
     split at hv
     · rename_i b hgv; obtain ⟨h1, h2⟩ := bool_slot h hgv; rw [yielded_of (ops := ops) hj h1 h2]; have yes : (opN T S (TM.setV st (some d) (.one (.bool b))) o).val = some st' → ∃ v, (∀ w' : World, C w' → (execOp a.eval o).run P w' = .ok (.value v) w') ∧ Rel w0 mu c st' (a.put o.dst v) w := fun e => base (by rwa [setV_self st d hgv] at e)
       have no : (N.done (TM.setV (TM.setV st (some d) (.one (.bool b))) o.dst (.tup []))).val = some st' → Rel w0 mu c st' (a.put o.dst undef) w := by
         intro e; simp only [N.val, Option.some.injEq] at e; subst e; rw [setV_self st d hgv]; exact h.setV (rel_undef _ _ _) hd
       rcases brN_some hv with ⟨hb, hv1⟩ | ⟨hb, hv1⟩
       · subst hb
         cases want
         · exact ⟨undef, .inr ⟨rfl, rfl⟩, no hv1⟩
         · obtain ⟨v, h3, h4⟩ := yes hv1; exact ⟨v, .inl ⟨rfl, h3⟩, h4⟩
       · subst hb
         cases want
         · obtain ⟨v, h3, h4⟩ := yes hv1; exact ⟨v, .inl ⟨rfl, h3⟩, h4⟩
         · exact ⟨undef, .inr ⟨rfl, rfl⟩, no hv1⟩
     · rename_i hgv; simp only [N.val, Option.some.injEq] at hv; subst hv; rw [yielded_undef (ops := ops) hj (slot_undef h hgv)]; exact ⟨undef, .inr ⟨by cases want <;> rfl, rfl⟩, h.setV (rel_undef _ _ _) hd⟩
     · simp [N.val] at hv
theorem take_ok {P : Program} {T : Tab} (hT : TabOk P T) {S : Sems} {w0 : World} {mu : Mu} {c : Cz} {st : St} {a : Act} {w : World} (h : Rel w0 mu c st a w) {o : Oper} (hk : kindOk S st o .take = true)
   {st' : St} (hv : (opN T S st o).val = some st') (hd : ∀ k, o.dst = some k → k < a.tmps.size) : ∃ v, (∀ w' : World, Keep w w' → (execOp a.eval o).run P w' = .ok (.value v) w') ∧ Rel w0 mu c st' (a.put o.dst v) w := by
 unfold kindOk at hk; unfold opN at hv
 cases ho : o.op with
 | load t x =>
   simp only [ho] at hv; obtain ⟨v, h1, h2⟩ := loadN_ok hT h (opd_rel h x) hv hd; exact ⟨v, fun w' hw => by simp only [execOp, ho]; exact run_v (h1 w' hw), h2⟩
 | _ => simp [ho] at hk
theorem memB_mem {i : Nat} : (l : List Nat) → memB i l = true → i ∈ l
 | [], h => by cases h
 | x :: l, h => by
   unfold memB at h; rw [Bool.or_eq_true] at h; rcases h with h | h
   · rw [Nat.eq_of_beq_eq_true h]; exact List.mem_cons_self
   · exact List.mem_cons_of_mem _ (memB_mem l h)
theorem drawn_ok {R : Type} {P : Program} {T : Tab} (hT : TabOk P T) (hE : EqOk P T) {S : Sems} {w0 : World} {mu : Mu} {n : Nat} (hop : OpSound P T S w0 mu n) {ops : Array Oper} {ds : List Nat} {Q : Exit → Act → World → Prop} (hQ : ∀ c a w, ¬ Q (.panic c) a w)
   {k : St → Option R} {r : R} (hk : Next w0 mu n r k (Q .normal)) (hns : Region.noSelect ops = true) (hdst : dstsOk n ops.toList = true) :
   (l : Pl) → (ls : List Nat) → (listed : Array Bool) → (fuel : Nat) → {c : Cz} → {st : St} → {a : Act} → {w : World} → Lst ops.size ls listed → ShutUp .any ops listed → l.depth ≤ fuel →
     Rel w0 mu c st a w → a.tmps.size = n → drawnK T S ops.toList l st k = some r →
     (drawB ops ops.toList ops.size ds false ls l = true → wpAnyK P .any ops Q ds fuel listed a w) ∧
     (drawB ops ops.toList ops.size ds true ls l = true → ∃ fuel', fuel = fuel' + 1 ∧ ∀ i ∈ l.heads, i ∈ Region.ready .any ops listed ∧ wpOp P ops Q i (fun a' w' => (i ∉ ds → Keep w w') ∧ wpAnyK P .any ops Q ds fuel' (listed.setIfInBounds i true) a' w') a w)
 | .nil, ls, listed, fuel, c, st, a, w, hl, _, _, h, hn, hv => by
   refine ⟨fun hb => ?_, fun hb => by simp [drawB] at hb⟩; unfold drawB at hb; rw [Bool.and_eq_true] at hb; have hr : Region.ready .any ops listed = [] := by
     refine List.eq_nil_iff_forall_not_mem.2 fun j hj => ?_
     obtain ⟨_, o, ho, _⟩ := mem_ready.1 hj; have hlt : j < ops.size := (Array.getElem?_eq_some_iff.1 ho).1; have h1 := List.all_eq_true.1 hb.2 j (List.mem_range.2 hlt); rw [(upB_iff hl j).2 hj] at h1
     cases h1
   have hq := hk h hn hv
   cases fuel with
   | zero => exact ⟨hr, hq⟩
   | succ fuel => exact ⟨fun _ => hq, fun i hi => by rw [hr] at hi; cases hi⟩
 | .op i kd l, ls, listed, 0, c, st, a, w, hl, _, hf, h, hn, hv => absurd hf (by simp [Pl.depth])
 | .op i kd l, ls, listed, fuel + 1, c, st, a, w, hl, hs, hf, h, hn, hv => by
   have hf : l.depth ≤ fuel := Nat.le_of_succ_le_succ hf; have first : ∀ al, drawB ops ops.toList ops.size ds al ls (.op i kd l) = true → upB ops.toList ls i = true ∧ drawB ops ops.toList ops.size ds false (i :: ls) l = true := by
     intro al hb; unfold drawB at hb; rw [Bool.and_eq_true, Bool.and_eq_true] at hb; exact ⟨hb.1, hb.2.2⟩
   have step : upB ops.toList ls i = true → drawB ops ops.toList ops.size ds false (i :: ls) l = true → (kd = .one ∨ i ∈ ds) → wpOp P ops Q i (fun a' w' => (i ∉ ds → Keep w w') ∧ wpAnyK P .any ops Q ds fuel (listed.setIfInBounds i true) a' w') a w := by
     intro hup hrest hds; have hir := (upB_iff hl i).1 hup; obtain ⟨_, o, hoi, _⟩ := mem_ready.1 hir; have hlt : i < ops.size := (Array.getElem?_eq_some_iff.1 hoi).1; unfold drawnK at hv; rw [nth_eq, Array.getElem?_toList, hoi] at hv; obtain ⟨hkk, hv⟩ := bif_some hv; rw [N.fold_eq] at hv; obtain ⟨st', h1, h2⟩ := Option.bind_eq_some_iff.1 hv; have hd' : ∀ k, o.dst = some k → k < a.tmps.size := fun k hk => by rw [hn]; exact dstsOk_of hdst (by rw [Array.mem_toList_iff]; exact Array.mem_of_getElem? hoi) k hk
     have next : ∀ {c' : Cz} {a' : Act} {w' : World}, Rel w0 mu c' st' a' w' → a'.tmps.size = n → wpAnyK P .any ops Q ds fuel (listed.setIfInBounds i true) a' w' := fun hr hn' =>
       (drawn_ok hT hE hop hQ hk hns hdst l (i :: ls) _ fuel (hl.push hlt) (hs.set hir) hf hr hn' h2).1 hrest
     have hko : kd = .one → kindOk S st o .one = true := fun e => by rw [e] at hkk; exact hkk
     unfold wpOp; rw [hoi]; rcases guard_ok hop h hn (fun k hk => by rw [← hn]; exact hd' k hk) h1 with ⟨hw, hst⟩ | ⟨hw, hrel⟩
     · simp only [hw, if_true]; refine .inl (Oper.wp_mono (fun a' w' ⟨⟨c', hr, hsz⟩, hkp⟩ => ⟨fun hnd => ?_, next hr (hsz.trans hn)⟩) (hst Q)); rcases hds with e | e
       · exact hkp (hko e)
       · exact absurd e hnd
     · simp only [hw, Bool.false_eq_true, if_false]; exact ⟨fun _ => Keep.refl w, next hrel ((put_size _ _ _).trans hn)⟩
   refine ⟨fun hb => ?_, fun hb => ⟨fuel, rfl, fun j hj => ?_⟩⟩
   · obtain ⟨hup, hrest⟩ := first _ hb; have hir := (upB_iff hl i).1 hup; unfold drawB at hb; rw [Bool.and_eq_true, Bool.and_eq_true] at hb; obtain ⟨_, hkd, _⟩ := hb; have alone : aloneB ops.toList ops.size ls i = true → (kd = .one ∨ i ∈ ds) → wpAnyK P .any ops Q ds (fuel + 1) listed a w := by
       intro hal hds; refine ⟨fun e => absurd hir (by rw [e]; exact List.not_mem_nil), fun j hj => ?_⟩; have := aloneB_spec hl hal j hj; subst this; exact step hup hrest hds
     obtain ⟨_, o, hoi, _⟩ := mem_ready.1 hir; have hlt : i < ops.size := (Array.getElem?_eq_some_iff.1 hoi).1; unfold drawnK at hv; rw [nth_eq, Array.getElem?_toList, hoi] at hv; obtain ⟨hkk, hv⟩ := bif_some hv; rw [N.fold_eq] at hv; obtain ⟨st', h1, h2⟩ := Option.bind_eq_some_iff.1 hv; have hd' : ∀ k, o.dst = some k → k < a.tmps.size := fun k hk => by rw [hn]; exact dstsOk_of hdst (by rw [Array.mem_toList_iff]; exact Array.mem_of_getElem? hoi) k hk
     have next : ∀ {c' : Cz} {a' : Act} {w' : World}, Rel w0 mu c' st' a' w' → a'.tmps.size = n → wpAnyK P .any ops Q ds fuel (listed.setIfInBounds i true) a' w' := fun hr hn' =>
       (drawn_ok hT hE hop hQ hk hns hdst l (i :: ls) _ fuel (hl.push hlt) (hs.set hir) hf hr hn' h2).1 hrest
     have hsel := Region.noSelect_spec hns
     cases kd with
     | one => exact alone (by simpa using hkd) (.inl rfl)
     | last =>
       simp only [Bool.false_or, Bool.and_eq_true] at hkd; exact alone hkd.1 (.inr (memB_mem ds hkd.2))
     | any =>
       simp only [Bool.not_false, Bool.true_and] at hkd; obtain ⟨v, hy, hrel⟩ := guard_yields (P := P) (ops := ops) (C := fun _ => True) h hd' h1 (fun e => by
         obtain ⟨v, g1, g2⟩ := pure_ok hT hE h hkk e hd'; exact ⟨v, fun w' _ => g1 w', g2⟩)
       refine wpAnyK_any hoi hsel (fun c a w hq => absurd hq (hQ _ _ _)) fuel listed a w (freeB_spec hl hoi hkd) hir ?_ (next hrel ((put_size _ _ _).trans hn)); rcases hy with ⟨g1, g2⟩ | g
       · exact .inl ⟨g1, fun w' => g2 w' trivial⟩
       · exact .inr g
     | take =>
       simp only [Bool.not_false, Bool.true_and, Bool.and_eq_true] at hkd; obtain ⟨v, hy, hrel⟩ := guard_yields (P := P) (ops := ops) (C := Keep w) h hd' h1 (fun e => take_ok hT h hkk e hd'); refine wpAnyK_first hoi hsel (fun c a w hq => absurd hq (hQ _ _ _)) ops.size fuel listed a w (freeB_spec hl hoi hkd.1) hs (fun d hm hun => ?_) hir hy (Keep.refl w) (next hrel ((put_size _ _ _).trans hn)); have h3 := List.all_eq_true.1 hkd.2 d hm; rw [hl.gt d, Bool.or_eq_false_iff] at hun; rw [hun.1, Bool.false_or] at h3; exact h3
   · have hj : j = i := by simpa [Pl.heads] using hj
     subst hj; obtain ⟨hup, hrest⟩ := first _ hb; refine ⟨(upB_iff hl j).1 hup, step hup hrest ?_⟩; unfold drawB at hb; rw [Bool.and_eq_true, Bool.and_eq_true] at hb; obtain ⟨_, hkd, _⟩ := hb
     cases kd with
     | one => exact .inl rfl
     | last =>
       simp only [Bool.true_or, Bool.true_and] at hkd; exact .inr (memB_mem ds hkd)
     | any => simp at hkd
     | take => simp at hkd
 | .alt p q, ls, listed, fuel, c, st, a, w, hl, hs, hf, h, hn, hv => by
   have hv : both (drawnK T S ops.toList p st k) (drawnK T S ops.toList q st k) = some r := hv; obtain ⟨hv1, hv2⟩ := both_some hv; have hf : Nat.max p.depth q.depth ≤ fuel := hf; have hp := (drawn_ok (ds := ds) hT hE hop hQ hk hns hdst p ls listed fuel hl hs (Nat.le_trans (Nat.le_max_left _ _) hf) h hn hv1).2; have hq := (drawn_ok (ds := ds) hT hE hop hQ hk hns hdst q ls listed fuel hl hs (Nat.le_trans (Nat.le_max_right _ _) hf) h hn hv2).2; have heads : drawB ops ops.toList ops.size ds true ls p = true → drawB ops ops.toList ops.size ds true ls q = true → ∃ fuel', fuel = fuel' + 1 ∧ ∀ i ∈ p.heads ++ q.heads, i ∈ Region.ready .any ops listed ∧ wpOp P ops Q i (fun a' w' => (i ∉ ds → Keep w w') ∧ wpAnyK P .any ops Q ds fuel' (listed.setIfInBounds i true) a' w') a w := by
     intro h1 h2; obtain ⟨f1, e1, g1⟩ := hp h1; obtain ⟨f2, e2, g2⟩ := hq h2; have : f1 = f2 := by omega
     subst this; exact ⟨f1, e1, fun i hi => (List.mem_append.1 hi).elim (g1 i) (g2 i)⟩
   have parts : ∀ al, drawB ops ops.toList ops.size ds al ls (.alt p q) = true → (al || coverB ops.toList ops.size ls (p.heads ++ q.heads)) = true ∧ drawB ops ops.toList ops.size ds true ls p = true ∧ drawB ops ops.toList ops.size ds true ls q = true := by
     intro al hb; unfold drawB at hb; rw [Bool.and_eq_true, Bool.and_eq_true] at hb; exact hb
   refine ⟨fun hb => ?_, fun hb => ?_⟩
   · obtain ⟨hc, h1, h2⟩ := parts _ hb; obtain ⟨f, rfl, g⟩ := heads h1 h2; have hcov : ∀ j ∈ Region.ready .any ops listed, j ∈ p.heads ++ q.heads := by
       intro j hj; have hlt : j < ops.size := by
         obtain ⟨_, o, ho, _⟩ := mem_ready.1 hj; exact (Array.getElem?_eq_some_iff.1 ho).1
       rw [Bool.false_or] at hc; have h1 := List.all_eq_true.1 hc j (List.mem_range.2 hlt); rw [(upB_iff hl j).2 hj, Bool.not_true, Bool.false_or] at h1; exact memB_mem _ h1
     refine ⟨fun e => ?_, fun j hj => (g j (hcov j hj)).2⟩; have hne : ∃ i, i ∈ p.heads ++ q.heads := by
       have key : ∀ (l : Pl), drawB ops ops.toList ops.size ds true ls l = true → ∃ i, i ∈ l.heads := by
         intro l
         induction l with
         | nil => intro h; simp [drawB] at h
         | op i _ _ _ => intro _; exact ⟨i, by simp [Pl.heads]⟩
         | alt p q ih _ =>
           intro h; unfold drawB at h; rw [Bool.and_eq_true, Bool.and_eq_true] at h; obtain ⟨i, hi⟩ := ih h.2.1; exact ⟨i, List.mem_append_left _ hi⟩
       obtain ⟨i, hi⟩ := key p h1; exact ⟨i, List.mem_append_left _ hi⟩
     obtain ⟨i, hi⟩ := hne; have := (g i hi).1; rw [e] at this
     cases this
   · obtain ⟨_, h1, h2⟩ := parts _ hb; exact heads h1 h2
theorem drawSound {R : Type} {P : Program} {T : Tab} (hT : TabOk P T) (hE : EqOk P T) (hm : P.follows .mixedOrders = true) {S : Sems} {D : Draws} {w0 : World} {mu : Mu} {n : Nat} (hop : OpSound P T S w0 mu n) :
   DrawSound R P T S D w0 mu n (fun id ops => drawOk ops (D id) = true) := by
 intro id ops Q k r hok hdst hk c st a w h hn hv; unfold drawOk at hok; rw [Bool.and_eq_true, Bool.and_eq_true] at hok; obtain ⟨hns, hlen, hb⟩ := hok
 let Q' : Exit → Act → World → Prop := fun e a w => e = .normal ∧ Q .normal a w
 have key : (Code.region id ops true).wp P Q' a w := by
   refine wp_region_any hm (wpAny_of_keep _ _ _ _ ((drawn_ok hT hE hop (ds := lasts (D id)) (Q := Q') (fun c a w hq => by cases hq.1) (fun {c st a w} g1 g2 g3 => ⟨rfl, hk g1 g2 g3⟩) hns hdst (D id) [] _ ops.size (Lst.none _) (ShutUp.none _ _ _) (Nat.le_of_ble_eq_true hlen) h.drew hn hv).1 hb))
 exact Code.wp_mono (fun e a w hq => by obtain ⟨rfl, hq⟩ := hq; exact hq) key
end Go.TM
namespace Go.TM
open Go Go.RowKit
abbrev Cur : RT → Type → Type
 | .nil, R => R
 | .cons t r, R => den t → Cur r R
abbrev unc {R : Type} : (r : RT) → Cur r R → denR r → R
 | .nil, f, _ => f
 | .cons _ r, f, x => unc r (f x.1) x.2
def noD : Draws := fun _ => .nil
def noL {R : Type} : Loops R := fun _ _ _ _ => none
def bodyOf (f : Func) : Code := match f.body with | some c => c | none => .skip
def nn : Nat → List (Option AP)
 | 0 => []
 | n + 1 => none :: nn n
structure Rec where
 size : Nat
 agg : Bool
 places : List (Nat × Nat)
 row : Option RT
 elem : Option (RT × Nat)
 kind : Option Ty
 ones : List Nat
 eq : Bool
 dp : Bool := false
 cap : Bool := false
inductive Tr where
 | leaf
 | node (l : Tr) (k : Nat) (v : Rec) (r : Tr)
def Tr.flat : Tr → Tr
 | .leaf => .leaf
 | .node l k v r => .node l.flat k { v with dp := false } r.flat
def Tr.caps (l : List Nat) : Tr → Tr
 | .leaf => .leaf
 | .node a k v b => .node (a.caps l) k { v with cap := l.any (Nat.beq k) } (b.caps l)
def Tr.find : Tr → Nat → Option Rec
 | .leaf, _ => none
 | .node l k v r, t => bif Nat.beq t k then some v else bif Nat.blt t k then l.find t else r.find t
def Tr.all (p : Nat → Rec → Bool) : Tr → Bool
 | .leaf => true
 | .node l k v r => l.all p && (p k v && r.all p)
theorem Tr.all_find {p : Nat → Rec → Bool} : (tr : Tr) → tr.all p = true → ∀ {t v}, tr.find t = some v → p t v = true
 | .leaf, _, _, _, h => by cases h
 | .node l k v r, h, t, u, hf => by
   unfold Tr.all at h; rw [Bool.and_eq_true, Bool.and_eq_true] at h; unfold Tr.find at hf
   cases hb : Nat.beq t k with
   | true =>
     rw [hb] at hf; injection hf with hf; subst hf; rw [Nat.eq_of_beq_eq_true hb]; exact h.2.1
   | false =>
     rw [hb] at hf
     cases hl : Nat.blt t k with
     | true => rw [hl] at hf; exact Tr.all_find l h.1 hf
     | false => rw [hl] at hf; exact Tr.all_find r h.2.2 hf
def tabOf (tr : Tr) : Tab where
 cells t := (tr.find t).map (·.size)
 agg t := match tr.find t with | some r => r.agg | none => false
 off t f := match tr.find t with | some r => (nth r.places f).map (·.1) | none => none
 fsz t f := match tr.find t with | some r => (nth r.places f).map (·.2) | none => none
 row t := match tr.find t with | some r => r.row | none => none
 elem t := match tr.find t with | some r => r.elem | none => none
 tup _ := none
 kind t := match tr.find t with | some r => r.kind | none => none
 one t f := match tr.find t with | some r => r.ones.any (Nat.beq f) | none => false
 eq t := match tr.find t with | some r => r.eq | none => false
 dp t := match tr.find t with | some r => r.dp | none => false
 cap t := match tr.find t with | some r => r.cap | none => false
def zeroB : RT → List Value → Bool
 | .nil, [] => true
 | .cons (.int k) r, .int l n :: vs => decide (k = l) && decide (n = 0) && zeroB r vs
 | .cons .bool r, .bool b :: vs => !b && zeroB r vs
 | .cons .str r, .string s :: vs => (match s.data.toList with | [] => true | _ => false) && zeroB r vs
 | .cons (.sl _) r, .slice none 0 0 :: vs => zeroB r vs
 | _, _ => false
theorem zeroB_ok : (r : RT) → (vs : List Value) → zeroB r vs = true → ZeroL r vs
 | .nil, [], _ => rfl
 | .nil, _ :: _, h => by simp [zeroB] at h
 | .cons t r, [], h => by cases t <;> simp [zeroB] at h
 | .cons t r, v :: vs, h => by
   cases t with
   | int k =>
     cases v <;> try (simp [zeroB] at h; done)
     rename_i l n; simp only [zeroB, Bool.and_eq_true, decide_eq_true_eq] at h; obtain ⟨⟨rfl, rfl⟩, h⟩ := h; exact ⟨vs, rfl, zeroB_ok r vs h⟩
   | bool =>
     cases v <;> try (simp [zeroB] at h; done)
     rename_i b; simp only [zeroB, Bool.and_eq_true, Bool.not_eq_true'] at h; obtain ⟨rfl, h⟩ := h; exact ⟨vs, rfl, zeroB_ok r vs h⟩
   | str =>
     cases v <;> try (simp [zeroB] at h; done)
     rename_i s; simp only [zeroB, Bool.and_eq_true] at h; obtain ⟨h1, h⟩ := h; refine ⟨vs, ?_, zeroB_ok r vs h⟩; obtain ⟨d⟩ := s; obtain ⟨d⟩ := d
     cases d with
     | nil => rfl
     | cons _ _ => simp at h1
   | sl q =>
     cases v <;> try (simp [zeroB] at h; done)
     rename_i a n m
     cases a with
     | some _ => simp [zeroB] at h
     | none => cases n with
       | succ _ => simp [zeroB] at h
       | zero => cases m with
         | succ _ => simp [zeroB] at h
         | zero =>
           have h : zeroB r vs = true := h; exact ⟨vs, rfl, zeroB_ok r vs h⟩
def optIs {α : Type} (o : Option α) (p : α → Bool) : Bool := match o with | some x => p x | none => false
theorem optIs_ok {α : Type} {o : Option α} {p : α → Bool} (h : optIs o p = true) : ∃ x, o = some x ∧ p x = true := by
 cases o with
 | none => cases h
 | some x => exact ⟨x, rfl, h⟩
def fieldsB (P : Program) : List Field → List (Nat × Nat) → Bool
 | [], [] => true
 | f :: fs, (o, s) :: ps => Nat.beq f.offset o && (optIs (P.info? f.type) (fun i => Nat.beq i.size s) && (Nat.blt 0 s && fieldsB P fs ps))
 | _, _ => false
theorem fieldsB_ok {P : Program} : (fs : List Field) → (ps : List (Nat × Nat)) → fieldsB P fs ps = true →
   fs.mapM (fun f => (P.info? f.type).map fun i => (f.offset, i.size)) = some ps ∧ ∀ (k : Nat) p, ps[k]? = some p → ∃ fld n, fs[k]? = some fld ∧ fld.offset = p.1 ∧ (P.info? fld.type).map (·.size) = some (n + 1)
 | [], [], _ => ⟨rfl, fun k p h => by simp at h⟩
 | [], _ :: _, h => by simp [fieldsB] at h
 | _ :: _, [], h => by simp [fieldsB] at h
 | f :: fs, (o, s) :: ps, h => by
   unfold fieldsB at h; rw [Bool.and_eq_true, Bool.and_eq_true, Bool.and_eq_true] at h; obtain ⟨h1, h2, h3, h4⟩ := h; obtain ⟨i, hi, his⟩ := optIs_ok h2; have h1 := Nat.eq_of_beq_eq_true h1; have his := Nat.eq_of_beq_eq_true his; obtain ⟨g1, g2⟩ := fieldsB_ok fs ps h4; refine ⟨by simp [List.mapM_cons, hi, g1, h1, his], fun k p hp => ?_⟩
   cases k with
   | zero =>
     simp at hp; subst hp; have h3 : 0 < s := Nat.le_of_ble_eq_true h3; exact ⟨f, s - 1, rfl, h1, by rw [hi]; simp [his]; omega⟩
   | succ k => exact g2 k p (by simpa using hp)
def kindB (P : Program) (t : Nat) : Ty → Bool
 | .int k => optIs (P.underlying t) fun | .int l => decide (k = l) | _ => false
 | .bool => optIs (P.underlying t) fun | .bool => true | _ => false
 | .str => optIs (P.underlying t) fun | .string => true | _ => false
 | .sl _ => false
def recOk0 (P : Program) (t : Nat) (r : Rec) : Bool :=
 optIs (P.info? t) (fun i => Nat.beq i.size r.size && (match r.row with | some q => optIs i.zero (fun z => zeroB q z.cells.toList) | none => true)) &&
 (optIs (P.underlying t) (fun d => (d.isRow == r.agg) && (bif r.agg then true else Nat.beq r.size 1) && (match d with | .struct fs => bif r.agg then fieldsB P fs.toList r.places else Nat.beq r.places.length 0 | _ => !r.agg && Nat.beq r.places.length 0)
     && (match r.elem with | some (q, b) => (match d with | .slice e => optIs (P.info? e) (fun i => Nat.beq i.size q.width && (Nat.blt 0 q.width && (Nat.beq i.bytes b && (Nat.blt 0 b && optIs i.zero (fun z => zeroB q z.cells.toList))))) | _ => false) | none => true)) &&
 ((match r.kind with | some k => kindB P t k | none => true) && (match r.elem with | some (.cons (.int .u8) .nil, _) => optIs (P.underlying t) (fun d => match d with | .slice e => kindB P e (.int .u8) | _ => false) | _ => true)))
def onesB (P : Program) (t : Nat) (l : List Nat) : Bool := l.all fun f => optIs (P.underlying t) fun d => match d with | .struct fs => optIs fs[f]? (fun fld => optIs (P.underlying fld.type) fun e => !e.isRow) | _ => false
def recOk (P : Program) (t : Nat) (r : Rec) : Bool := recOk0 P t r && onesB P t r.ones
theorem tab_ok {P : Program} {tr : Tr} (h : tr.all (recOk P) = true) : TabOk P (tabOf tr) := by
 have get0 : ∀ {t r}, tr.find t = some r → recOk P t r = true := fun hf => Tr.all_find tr h hf
 have get : ∀ {t r}, tr.find t = some r → recOk0 P t r = true := fun hf => (Bool.and_eq_true _ _ ▸ get0 hf).1
 have base : ∀ {t r}, tr.find t = some r → (∃ i, P.info? t = some i ∧ i.size = r.size ∧ ∀ q, r.row = some q → ∃ z, i.zero = some z ∧ ZeroL q z.cells.toList) ∧
     (∃ d, P.underlying t = some d ∧ d.isRow = r.agg ∧ (r.agg = false → r.size = 1) ∧ (r.places ≠ [] ∨ r.agg = true → ∃ fs, d = .struct fs ∧ fieldsB P fs.toList r.places = true) ∧
       ∀ q b, r.elem = some (q, b) → ∃ e i z, d = .slice e ∧ P.info? e = some i ∧ i.size = q.width ∧ 0 < q.width ∧ i.bytes = b ∧ 0 < b ∧ i.zero = some z ∧ ZeroL q z.cells.toList) ∧
     ∀ k, r.kind = some k → kindB P t k = true := by
   intro t r hf; have h1 := get hf; unfold recOk0 at h1; rw [Bool.and_eq_true, Bool.and_eq_true, Bool.and_eq_true] at h1; obtain ⟨h1, h2, h3, _⟩ := h1; obtain ⟨i, hi, h4⟩ := optIs_ok h1; rw [Bool.and_eq_true] at h4; obtain ⟨d, hd, h5⟩ := optIs_ok h2; rw [Bool.and_eq_true, Bool.and_eq_true, Bool.and_eq_true] at h5; obtain ⟨⟨⟨g1, g2⟩, g3⟩, g4⟩ := h5; refine ⟨⟨i, hi, Nat.eq_of_beq_eq_true h4.1, fun q hq => ?_⟩, ⟨d, hd, by simpa using g1, fun hag => ?_, fun hne => ?_, fun q b he => ?_⟩, fun k hk => ?_⟩
   · have h6 := h4.2; rw [hq] at h6; obtain ⟨z, hz, h7⟩ := optIs_ok h6; exact ⟨z, hz, zeroB_ok q _ h7⟩
   · rw [hag] at g2; exact Nat.eq_of_beq_eq_true g2
   · cases hag : r.agg with
     | true =>
       rw [hag] at g3
       cases d with
       | struct fs => exact ⟨fs, rfl, g3⟩
       | _ => simp at g3
     | false =>
       rw [hag] at g3; rcases hne with hne | hne
       · have : Nat.beq r.places.length 0 = true := by
           cases d with
           | struct fs => exact g3
           | _ => simpa using g3
         exact absurd (List.length_eq_zero_iff.1 (Nat.eq_of_beq_eq_true this)) hne
       · rw [hag] at hne; cases hne
   · rw [he] at g4
     cases d with
     | slice e =>
       obtain ⟨i, h6, h7⟩ := optIs_ok g4; rw [Bool.and_eq_true, Bool.and_eq_true, Bool.and_eq_true, Bool.and_eq_true] at h7; obtain ⟨k1, k2, k3, k4, k5⟩ := h7; obtain ⟨z, hz, h8⟩ := optIs_ok k5; exact ⟨e, i, z, rfl, h6, Nat.eq_of_beq_eq_true k1, Nat.le_of_ble_eq_true k2, Nat.eq_of_beq_eq_true k3, Nat.le_of_ble_eq_true k4, hz, zeroB_ok q _ h8⟩
     | _ => cases g4
   · rw [hk] at h3; exact h3
 have look : ∀ {α : Type} {t : Nat} {g : Rec → Option α} {x : α}, (match tr.find t with | some r => g r | none => none) = some x → ∃ r, tr.find t = some r ∧ g r = some x := by
   intro α t g x hx
   cases hf : tr.find t with
   | none => rw [hf] at hx; cases hx
   | some r => rw [hf] at hx; exact ⟨r, rfl, hx⟩
 have lookB : ∀ {t : Nat} {g : Rec → Bool}, (match tr.find t with | some r => g r | none => false) = true → ∃ r, tr.find t = some r ∧ g r = true := by
   intro t g hx
   cases hf : tr.find t with
   | none => rw [hf] at hx; cases hx
   | some r => rw [hf] at hx; exact ⟨r, rfl, hx⟩
 exact {
   cells := fun t n ht => by
     obtain ⟨r, hf, rfl⟩ := Option.map_eq_some_iff.1 ht; obtain ⟨⟨i, hi, hs, _⟩, _⟩ := base hf; rw [hi]; simp [hs]
   agg := fun t n ht => by
     obtain ⟨r, hf, rfl⟩ := Option.map_eq_some_iff.1 ht; obtain ⟨_, ⟨d, hd, h1, h2, _⟩, _⟩ := base hf; have e : (tabOf tr).agg t = r.agg := by show (match tr.find t with | some r => r.agg | none => false) = _; rw [hf]
     exact ⟨d, hd, h1.trans e.symm, fun h => h2 (e ▸ h)⟩
   off := fun t f k ht => by
     obtain ⟨r, hf, hk⟩ := look ht; obtain ⟨p, hp, rfl⟩ := Option.map_eq_some_iff.1 hk; obtain ⟨_, ⟨d, hd, _, _, h3, _⟩, _⟩ := base hf; rw [nth_eq] at hp; obtain ⟨fs, rfl, hfs⟩ := h3 (.inl (by intro e; rw [e] at hp; simp at hp)); obtain ⟨fld, n, g1, g2, g3⟩ := (fieldsB_ok fs.toList r.places hfs).2 f p hp; exact ⟨fs, fld, n, hd, by simpa using g1, g2, g3⟩
   bld := fun t ht => by
     obtain ⟨r, hf, hag⟩ := lookB (g := fun r => r.agg) ht; obtain ⟨_, ⟨d, hd, _, _, h3, _⟩, _⟩ := base hf; obtain ⟨fs, rfl, hfs⟩ := h3 (.inr hag); refine ⟨fs, r.places, hd, (fieldsB_ok fs.toList r.places hfs).1, fun f o s ho hs => ?_⟩; have ho : (match tr.find t with | some r => (nth r.places f).map (·.1) | none => none) = some o := ho; have hs : (match tr.find t with | some r => (nth r.places f).map (·.2) | none => none) = some s := hs; rw [hf] at ho hs; obtain ⟨p, hp, rfl⟩ := Option.map_eq_some_iff.1 ho; obtain ⟨p', hp', rfl⟩ := Option.map_eq_some_iff.1 hs; rw [hp] at hp'; injection hp' with e; subst e; rw [nth_eq] at hp; exact hp
   row := fun t q ht => by
     obtain ⟨r, hf, hk⟩ := look (g := fun r => r.row) ht; obtain ⟨⟨i, hi, _, h1⟩, _⟩ := base hf; obtain ⟨z, hz, hzl⟩ := h1 q hk; exact ⟨i, z, hi, hz, hzl⟩
   elem := fun t q b ht => by
     obtain ⟨r, hf, hk⟩ := look (g := fun r => r.elem) ht; obtain ⟨_, ⟨d, hd, _, _, _, h4⟩, _⟩ := base hf; obtain ⟨e, i, z, rfl, h5⟩ := h4 q b hk; exact ⟨e, i, z, hd, h5⟩
   u8 := fun t e b ht hu => by
     obtain ⟨r, hf, hk⟩ := look (g := fun r => r.elem) ht; have h1 := get hf; unfold recOk0 at h1; rw [Bool.and_eq_true, Bool.and_eq_true, Bool.and_eq_true] at h1; have h2 := h1.2.2.2; rw [hk] at h2; obtain ⟨d, hd, h3⟩ := optIs_ok h2; rw [hu] at hd; injection hd with hd; subst hd; obtain ⟨d2, hd2, h4⟩ := optIs_ok h3; rw [hd2]
     cases d2 <;> simp at h4
     rw [← h4]
   one := fun t f ht => by
     have ht : (match tr.find t with | some r => r.ones.any (Nat.beq f) | none => false) = true := ht
     cases hf : tr.find t with
     | none => rw [hf] at ht; cases ht
     | some r =>
       rw [hf] at ht; have h2 : onesB P t r.ones = true := (Bool.and_eq_true _ _ ▸ get0 hf).2; obtain ⟨g, hg, hb⟩ := List.any_eq_true.1 ht; have hb := Nat.eq_of_beq_eq_true hb; subst hb; have h3 := List.all_eq_true.1 h2 f hg; obtain ⟨d, hd, h4⟩ := optIs_ok h3
       cases d with
       | struct fs =>
         obtain ⟨fld, hfld, h5⟩ := optIs_ok h4; obtain ⟨e, he, h6⟩ := optIs_ok h5; exact ⟨fs, fld, e, hd, hfld, he, by simpa using h6⟩
       | _ => cases h4
   kind := fun t y ht => by
     obtain ⟨r, hf, hk⟩ := look (g := fun r => r.kind) ht; have h1 := (base hf).2.2 y hk
     cases y with
     | int k =>
       obtain ⟨d, hd, h2⟩ := optIs_ok h1; refine ⟨d, hd, ?_⟩
       cases d <;> simp at h2
       rw [h2]; rfl
     | bool =>
       obtain ⟨d, hd, h2⟩ := optIs_ok h1; refine ⟨d, hd, ?_⟩
       cases d <;> simp at h2
       rfl
     | str =>
       obtain ⟨d, hd, h2⟩ := optIs_ok h1; refine ⟨d, hd, ?_⟩
       cases d <;> simp at h2
       rfl
     | sl _ => cases h1 }
end Go.TM
