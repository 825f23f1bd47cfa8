/- A machine over trees: an evaluator of the code, and that what it finds is so; part 3. -/
import Derived.Test.YtiljcjnnhkidbaaGreatTm2
import Derived.Laws.Sem
import Derived.Deep.LoopGhost
import Derived.OrdersHeld
import Derived.KernelRfl
import Derived.Carry
import Derived.ChangeArms
import Derived.ChangeOld
import Derived.OpenShut
namespace Go.TM
open Go Go.RowKit
def wx (st : St) (n : Nat × Nat) : Prop := ∃ g A, bl st n.1 n.2 g = some A ∧ A.md ≠ .ho
theorem LR {st : St} {own : Bool} {x : CV} {o : OV} {u : Option Lb} {r : List (Nat × Nat)} (h : gu st own x = some (o, u, r)) : (∀ s j, u = some (.sp s j) → wx st (s, j)) ∧ ∀ p ∈ r, wx st p := by
 cases x with
 | ref a j g w =>
   unfold gu at h; simp only at h
   cases hA : bl st a j g with
   | none => simp [hA] at h
   | some A =>
     simp only [hA] at h
     cases hm : A.md.is .ho with
     | true => simp [hm] at h
     | false =>
     have xY : A.md ≠ .ho := by intro e; rw [e] at hm; simp [Md.is] at hm
     simp only [hm, cond_false] at h
     cases hb : (own && A.own && (A.md.is .sh || w.isFull)) <;> simp only [hb, cond_true, cond_false, Option.some.injEq, Prod.mk.injEq] at h <;> obtain ⟨_, rfl, rfl⟩ := h
     · exact ⟨by simp, fun p hp => by simp at hp; subst hp; exact ⟨g, A, hA, xY⟩⟩
     · refine ⟨fun s k e => ?_, by simp⟩; simp only [Option.some.injEq, Lb.sp.injEq] at e; obtain ⟨rfl, rfl⟩ := e; exact ⟨g, A, hA, xY⟩
 | qg a j g e i k q ys =>
   unfold gu at h; simp only at h
   cases hA : bl st a j g with
   | none => simp [hA] at h
   | some A =>
     simp only [hA] at h; obtain ⟨h1, h⟩ := aH h; rw [Bool.and_eq_true] at h1; have hm := Md.oG.1 h1.1; simp only [Option.some.injEq, Prod.mk.injEq] at h; obtain ⟨_, rfl, rfl⟩ := h; exact ⟨by simp, fun p hp => by simp at hp; subst hp; exact ⟨g, A, hA, by rw [hm]; simp⟩⟩
 | mH q y off => obtain ⟨_, rfl, rfl⟩ := wm h; simp
 | sX q y off => obtain ⟨_, rfl, rfl⟩ := tk h; simp
 | _ => simp [gu] at h <;> (try (obtain ⟨_, rfl, rfl⟩ := h; simp))
theorem tp {st : St} {own : Bool} : (cs : List CV) → {os : List OV} → {u : List (Option Lb)} → {r : List (Nat × Nat)} → fC st own cs = some (os, u, r) → (∀ s j, .sp s j ∈ cq u → wx st (s, j)) ∧ ∀ p ∈ r, wx st p
 | [], _, _, _, h => by
   simp only [fC, Option.some.injEq, Prod.mk.injEq] at h; obtain ⟨_, rfl, rfl⟩ := h; simp [cq]
 | x :: cs, os, u, r, h => by
   unfold fC at h
   cases hc : gu st own x with
   | none => simp [hc] at h
   | some p =>
     obtain ⟨o, u1, r1⟩ := p
     cases hq : fC st own cs with
     | none => simp [hc, hq] at h
     | some q =>
       obtain ⟨zw, us, rs⟩ := q; simp only [hc, hq, Option.some.injEq, Prod.mk.injEq] at h; obtain ⟨_, rfl, rfl⟩ := h; obtain ⟨a1, a2⟩ := LR hc; obtain ⟨b1, b2⟩ := tp cs hq; refine ⟨fun s j hm => ?_, fun p hp => ?_⟩
       · rw [hZ] at hm; rcases List.mem_cons.1 hm with hm | hm
         · exact a1 s j hm.symm
         · exact b1 s j (hZ.2 hm)
       · rcases List.mem_append.1 hp with hp | hp
         · exact a2 p hp
         · exact b2 p hp
theorem HA {st : St} {m : Pm} {v : V} {av : AV} {u q : List Lb} {r : List (Nat × Nat)} (h : eS st m v = some (av, u, q, r)) : (∀ s j, .sp s j ∈ u → wx st (s, j)) ∧ ∀ p ∈ r, wx st p := by
 have single : ∀ own cs ag, (match fC st own cs with | some (os, u, r) => some (AV.val ag os, cq u, cq u, r) | none => none) = some (av, u, q, r) → (∀ s j, .sp s j ∈ u → wx st (s, j)) ∧ ∀ p ∈ r, wx st p := by
   intro own cs ag h
   cases hq : fC st own cs with
   | none => simp [hq] at h
   | some p =>
     obtain ⟨os, us, rs⟩ := p; simp only [hq, Option.some.injEq, Prod.mk.injEq] at h; obtain ⟨_, rfl, rfl, rfl⟩ := h; exact tp cs hq
 cases v with
 | ot _ => simp [eS] at h
 | agg cs =>
   unfold eS at h
   cases m with
   | shr => exact single _ _ _ h
   | own => exact single _ _ _ h
   | pick _ => exact single _ _ _ h
   | io => exact single _ _ _ h
   | bW =>
     simp only at h
     cases hq : fC st true cs with
     | none => simp [hq] at h
     | some p =>
       obtain ⟨os, us, rs⟩ := p; simp only [hq] at h; obtain ⟨_, h1⟩ := aH h; simp only [Option.some.injEq, Prod.mk.injEq] at h1; obtain ⟨_, rfl, _, rfl⟩ := h1; exact tp cs hq
 | one cx =>
   cases cx with
   | ptr b g off =>
     unfold eS at h; simp only at h
     cases hb : eR st b g with
     | none => simp [hb] at h
     | some cs =>
       simp only [hb] at h
       cases hq : fC st true cs with
       | none => simp [hq] at h
       | some p =>
         obtain ⟨os, us, rs⟩ := p; simp only [hq] at h; obtain ⟨_, h1⟩ := aH h; simp only [Option.some.injEq, Prod.mk.injEq] at h1; obtain ⟨_, rfl, rfl, rfl⟩ := h1; obtain ⟨a1, a2⟩ := tp cs hq; refine ⟨fun s j hm => ?_, a2⟩; rcases List.mem_cons.1 hm with hm | hm
         · cases hm
         · exact a1 s j hm
   | ref s j g vw =>
     unfold eS at h
     cases m with
     | shr => exact single _ _ _ h
     | own => exact single _ _ _ h
     | pick _ => exact single _ _ _ h
     | bW => exact single _ _ _ h
     | io =>
       cases vw with
       | full =>
         cases hA : bl st s j g with
         | none => simp [hA] at h
         | some A =>
           simp only [hA] at h; obtain ⟨hb, h1⟩ := aH h; simp only [Option.some.injEq, Prod.mk.injEq] at h1; obtain ⟨_, rfl, _, rfl⟩ := h1; refine ⟨fun s' j' hm => ?_, by simp⟩; simp at hm; obtain ⟨rfl, rfl⟩ := hm; rw [Bool.and_eq_true] at hb; exact ⟨g, A, hA, fun e => by rw [e] at hb; simp [Md.is] at hb⟩
       | «from» _ => simp at h
       | sub _ _ => simp at h
   | _ =>
     unfold eS at h; simp only at h
     split at h
     · rename_i os us rs hq; simp only [Option.some.injEq, Prod.mk.injEq] at h; obtain ⟨_, rfl, _, rfl⟩ := h; exact tp _ hq
     · cases h
theorem BD {st : St} : (ms : List (Pm × V)) → {eg : List AV} → {u q : List Lb} → {r : List (Nat × Nat)} → jf st ms = some (eg, u, q, r) → (∀ s j, .sp s j ∈ u → wx st (s, j)) ∧ ∀ p ∈ r, wx st p
 | [], _, _, _, _, h => by
   simp only [jf, Option.some.injEq, Prod.mk.injEq] at h; obtain ⟨_, rfl, _, rfl⟩ := h; simp
 | (m, v) :: ms, eg, u, q, r, h => by
   unfold jf at h
   cases h1 : eS st m v with
   | none => simp [h1] at h
   | some p1 =>
     obtain ⟨av, u1, q1, r1⟩ := p1
     cases h2 : jf st ms with
     | none => simp [h1, h2] at h
     | some p2 =>
       obtain ⟨PL, u2, q2, r2⟩ := p2; simp only [h1, h2, Option.some.injEq, Prod.mk.injEq] at h; obtain ⟨_, rfl, _, rfl⟩ := h; obtain ⟨a1, a2⟩ := HA h1; obtain ⟨b1, b2⟩ := BD ms h2; refine ⟨fun s j hm => ?_, fun p hp => ?_⟩
       · rcases List.mem_append.1 hm with hm | hm
         · exact a1 s j hm
         · exact b1 s j hm
       · rcases List.mem_append.1 hp with hp | hp
         · exact a2 p hp
         · exact b2 p hp
theorem Cq : {l : List Nat} → F1 l = true → ∀ {a b : Nat} {x y : Nat}, l[a]? = some x → l[b]? = some y → a < b → x < y
 | [], _, a, b, x, y, h, _, _ => by simp at h
 | [z], _, a, b, x, y, h1, h2, hab => by
   have : b = 0 := by
     have := (List.getElem?_eq_some_iff.1 h2).1; simpa using this
   omega
 | z :: z' :: l, h, a, b, x, y, h1, h2, hab => by
   simp only [F1, Bool.and_eq_true] at h; have hz : z < z' := by have := h.1; simp [Nat.blt] at this; omega
   cases b with
   | zero => omega
   | succ b =>
     cases a with
     | succ a => exact Cq h.2 (by simpa using h1) (by simpa using h2) (by omega)
     | zero =>
       simp at h1; subst h1
       cases b with
       | zero => simp at h2; omega
       | succ b =>
         have := Cq (a := 0) (b := b + 1) h.2 rfl (by simpa using h2) (by omega); omega
theorem NO {l : List Nat} (h : F1 l = true) {a b x : Nat} (h1 : l[a]? = some x) (h2 : l[b]? = some x) : a = b := by
 rcases Nat.lt_trichotomy a b with h3 | h3 | h3
 · have := Cq h h1 h2 h3; omega
 · exact h3
 · have := Cq h h2 h1 h3; omega
theorem Df {k : Nat} : (n : Nat) → (l : List Dr) → (∃ y ∈ l, y.k = k) → ∃ i y, posOf k n l = n + i ∧ l[i]? = some y ∧ y.k = k
 | n, [], h => by obtain ⟨y, hy, _⟩ := h; cases hy
 | n, x :: l, h => by
   unfold posOf
   cases hb : Nat.beq x.k k with
   | true => exact ⟨0, x, rfl, rfl, Nat.eq_of_beq_eq_true hb⟩
   | false =>
     have gW : x.k ≠ k := by intro e; rw [e, Nat.beq_refl] at hb; cases hb
     obtain ⟨y, hy, e⟩ := h; rcases List.mem_cons.1 hy with rfl | hy
     · exact absurd e gW
     · obtain ⟨i, y', h1, h2, h3⟩ := Df (n + 1) l ⟨y, hy, e⟩; exact ⟨i + 1, y', by rw [cond_false, h1]; omega, by simpa using h2, h3⟩
theorem HB {l : List Dr} (hi : F1 (l.map (·.k)) = true) {i : Nat} {y : Dr} (h : l[i]? = some y) : posOf y.k 0 l = i := by
 obtain ⟨i', y', h1, h2, h3⟩ := Df (k := y.k) 0 l ⟨y, List.mem_of_getElem? h, rfl⟩; rw [h1, Nat.zero_add]; exact NO hi (x := y.k) (by rw [List.getElem?_map, h2]; simp [h3]) (by rw [List.getElem?_map, h]; rfl)
def Dr.cv (y : Dr) : CV := .qg y.a y.j y.g y.e y.i y.k y.q y.ys
theorem uq {y : Dr} : {cs : List CV} → y ∈ xV cs → y.cv ∈ cs
 | [], h => by simp [xV] at h
 | c :: cs, h => by
   cases c with
   | qg a j g e i k q ys =>
     rcases List.mem_cons.1 h with rfl | h
     · exact List.mem_cons_self
     · exact List.mem_cons_of_mem _ (uq h)
   | _ => exact List.mem_cons_of_mem _ (uq h)
theorem Dg {a j g e i k : Nat} {q : RT} {ys : List (aq q)} : {cs : List CV} → CV.qg a j g e i k q ys ∈ cs → (⟨a, j, g, e, i, k, q, ys⟩ : Dr) ∈ xV cs
 | [], h => by cases h
 | c :: cs, h => by
   rcases List.mem_cons.1 h with rfl | h
   · exact List.mem_cons_self
   · have := Dg (cs := cs) h
     cases c with
     | qg _ _ _ _ _ _ _ _ => exact List.mem_cons_of_mem _ this
     | _ => exact this
theorem Dh {y : Dr} : {ms : List (Pm × V)} → y ∈ rC ms → ∃ m ∈ ms, (m = (.io, .one y.cv)) ∨ ∃ cs, m = (.bW, .agg cs) ∧ y.cv ∈ cs
 | [], h => by simp [rC] at h
 | (p, v) :: ms, h => by
   have rest : y ∈ rC ms → ∃ m ∈ (p, v) :: ms, (m = (.io, .one y.cv)) ∨ ∃ cs, m = (.bW, .agg cs) ∧ y.cv ∈ cs := fun h => by
     obtain ⟨m, hm, e⟩ := Dh h; exact ⟨m, List.mem_cons_of_mem _ hm, e⟩
   cases p with
   | io => cases v with
     | one c =>
       rcases List.mem_append.1 h with h | h
       · have := uq h; simp at this; exact ⟨_, List.mem_cons_self, .inl (by rw [this])⟩
       · exact rest h
     | _ => exact rest h
   | bW => cases v with
     | agg cs =>
       rcases List.mem_append.1 h with h | h
       · exact ⟨_, List.mem_cons_self, .inr ⟨cs, rfl, uq h⟩⟩
       · exact rest h
     | _ => exact rest h
   | _ => exact rest (by cases v <;> exact h)
theorem Fh {a j g e i k : Nat} {q : RT} {ys : List (aq q)} : {ms : List (Pm × V)} → (.io, .one (.qg a j g e i k q ys)) ∈ ms → (⟨a, j, g, e, i, k, q, ys⟩ : Dr) ∈ rC ms
 | [], h => by cases h
 | (p, v) :: ms, h => by
   rcases List.mem_cons.1 h with h | h
   · cases h
     exact List.mem_append_left _ List.mem_cons_self
   · have := Fh (ms := ms) h
     cases p <;> cases v <;> first | exact this | exact List.mem_append_right _ this
theorem BE {a j g e i k : Nat} {q : RT} {ys : List (aq q)} {cs : List CV} (hc : CV.qg a j g e i k q ys ∈ cs) : {ms : List (Pm × V)} → (.bW, .agg cs) ∈ ms → (⟨a, j, g, e, i, k, q, ys⟩ : Dr) ∈ rC ms
 | [], h => by cases h
 | (p, v) :: ms, h => by
   rcases List.mem_cons.1 h with h | h
   · cases h
     exact List.mem_append_left _ (Dg hc)
   · have := BE hc (ms := ms) h
     cases p <;> cases v <;> first | exact this | exact List.mem_append_right _ this
theorem zE {st : St} {ms : List (Pm × V)} {x : Dr} {A : iN} {l : List Dr} (h : ud st ms = some (x, A, l)) :
   l = rC ms ∧ bl st x.a x.j x.g = some A ∧ A.own = true ∧ A.md = .dp ∧ ou st x.a = x.e ∧ (∀ y ∈ l, y.a = x.a ∧ y.j = x.j ∧ y.g = x.g ∧ y.e = x.e ∧ y.i = x.i) ∧ F1 (l.map (·.k)) = true ∧ x.a ≠ st.length - 1 := by
 unfold ud at h
 cases hd : rC ms with
 | nil => rw [hd] at h; cases h
 | cons y l' =>
   rw [hd] at h; simp only at h
   cases hA : bl st y.a y.j y.g with
   | none => rw [hA] at h; cases h
   | some B =>
     rw [hA] at h; simp only at h; obtain ⟨h1, h⟩ := aH h; simp only [Option.some.injEq, Prod.mk.injEq] at h; obtain ⟨rfl, rfl, rfl⟩ := h; simp only [Bool.and_eq_true] at h1; obtain ⟨⟨⟨⟨⟨h1, h2⟩, h3⟩, h4⟩, h5⟩, h6⟩ := h1; refine ⟨rfl, hA, h1, Md.oG.1 h2, (Nat.eq_of_beq_eq_true h3).symm, fun z hz => ?_, h5, fun e => ?_⟩
     · rcases List.mem_cons.1 hz with rfl | hz
       · exact ⟨rfl, rfl, rfl, rfl, rfl⟩
       · have := List.all_eq_true.1 h4 z hz; simp only [Bool.and_eq_true] at this; obtain ⟨⟨⟨⟨q1, q2⟩, q3⟩, q4⟩, q5⟩ := this; exact ⟨Nat.eq_of_beq_eq_true q1, Nat.eq_of_beq_eq_true q2, Nat.eq_of_beq_eq_true q3, Nat.eq_of_beq_eq_true q4, Nat.eq_of_beq_eq_true q5⟩
     · rw [← e, Nat.beq_refl] at h6
       cases h6
theorem HC : (r : RT) → (x : aq r) → (k : Nat) → {p : (q : RT) × List (aq q)} → qH r x k = some p → k < r.width
 | .nil, _, _, _, h => by simp [qH] at h
 | .cons t r, x, 0, _, _ => by simp [RT.width]
 | .cons t r, x, k + 1, p, h => by
   have h' : qH r x.2 k = some p := by cases t <;> exact h
   have := HC r x.2 k h'; simp [RT.width]; omega
noncomputable def Cz.split (c : Cz) (a j i P : Nat) (gg : Nat → List Nat) (l : List Dr) (M7 : Nat → Loc) : Cz :=
 { bx := c.bx, lc := fun s k => if s = P then M7 k else c.lc s k,
   own := fun k => have := Classical.propDecidable (c.own k = some (.sp a j) ∧ ∃ y q, y ∈ l ∧ gg k = i :: y.k :: q); if c.own k = some (.sp a j) ∧ ∃ y q, y ∈ l ∧ gg k = i :: y.k :: q then some (.sp P (posOf ((gg k).getD 1 0) 0 l)) else c.own k }
theorem Cz.rk {c : Cz} {a j i P : Nat} {gg : Nat → List Nat} {l : List Dr} {M7 : Nat → Loc} {k : Nat} (h : ¬ (c.own k = some (.sp a j) ∧ ∃ y q, y ∈ l ∧ gg k = i :: y.k :: q)) : (c.split a j i P gg l M7).own k = c.own k := by
 unfold Cz.split; simp only; rw [if_neg h]
theorem Cz.HE {c : Cz} {a j i P : Nat} {gg : Nat → List Nat} {l : List Dr} {M7 : Nat → Loc} (hi : F1 (l.map (·.k)) = true) {k n : Nat} {y : Dr} {q : List Nat} (h : c.own k = some (.sp a j)) (hy : l[n]? = some y) (hg : gg k = i :: y.k :: q) : (c.split a j i P gg l M7).own k = some (.sp P n) := by
 unfold Cz.split; simp only; rw [if_pos ⟨h, y, q, List.mem_of_getElem? hy, hg⟩, hg]; have : (i :: y.k :: q).getD 1 0 = y.k := rfl; rw [this, HB hi hy]
theorem Cz.zF {c : Cz} {a j i P : Nat} {gg : Nat → List Nat} {l : List Dr} {M7 : Nat → Loc} {k : Nat} : (c.split a j i P gg l M7).ok k ↔ c.ok k := by
 unfold Cz.ok
 by_cases h : c.own k = some (.sp a j) ∧ ∃ y q, y ∈ l ∧ gg k = i :: y.k :: q
 · have h0 := h.1; unfold Cz.split; simp only; rw [if_pos h, h0]; simp
 · rw [Cz.rk h]
theorem Cz.Jm {c : Cz} {a j i P : Nat} {gg : Nat → List Nat} {l : List Dr} {M7 : Nat → Loc} {k : Nat} {lb : Lb} (h : (c.split a j i P gg l M7).own k = some lb) : c.own k = some lb ∨ (c.own k = some (.sp a j) ∧ ∃ n, lb = .sp P n) := by
 by_cases h1 : c.own k = some (.sp a j) ∧ ∃ y q, y ∈ l ∧ gg k = i :: y.k :: q
 · unfold Cz.split at h; simp only at h; rw [if_pos h1] at h; exact .inr ⟨h1.1, _, (Option.some.inj h).symm⟩
 · rw [Cz.rk h1] at h; exact .inl h
theorem wy {st : St} {x : Dr} {A : iN} {l : List Dr} (gW : x.a ≠ st.length - 1) (s : Nat) : nth (fy st x A l) s = if s = st.length - 1 then (nth st s).map (fun z => { z with aP := l.map (fun y => some y.arr), ag := z.ag + 1, ep := z.ep + 1 }) else
   (if s = x.a then (nth st s).map (fun z => { z with aP := nA (fun _ => some { A with md := .ho }) z.aP x.j, ep := z.ep + 1 }) else nth st s) := by
 unfold fy cj; rw [ec, ec]
 by_cases e : s = st.length - 1
 · rw [if_pos e, if_pos e, if_neg (show ¬ (s = x.a) from fun e' => gW (e'.symm.trans e))]
 · rw [if_neg e, if_neg e]
end Go.TM
namespace Go.TM
open Go Go.RowKit
structure Rp (c c1 : Cz) (st : St) (w : World) (x : Dr) (A : iN) (l : List Dr) (gg : Nat → List Nat) (b o cap : Nat) : Prop where
 lc : c.lc x.a x.j = .at b o cap
 lc1 : c1.lc x.a x.j = .at b o cap
 own : c.own b = some (.sp x.a x.j)
 g0 : gg b = []
 rows : ∀ (i : Nat) z, A.xs[i]? = some z → iz w (fun p k => c.own k = some (.sp x.a x.j) ∧ gg k = p) A.r [i] 0 b (o + i * A.r.width) z
 stay : ∀ k, c.own k = some (.sp x.a x.j) → (∀ y ∈ l, ∀ q, gg k ≠ x.i :: y.k :: q) → c1.own k = some (.sp x.a x.j)
 out : ∀ n y, l[n]? = some y → ∃ v, w.cell? ⟨b, o + x.i * A.r.width + y.k, none⟩ = some v ∧ v.oneCell' = true ∧ jJ (c1.lc (st.length - 1) n) y.q.width 0 y.ys.length v ∧ y.k < A.r.width
 len : x.i < A.xs.length
theorem zF {w0 : World} {mu : Mu} {c : Cz} {st : St} {a : Act} {w : World} (h : Rel w0 mu c st a w) {ms : List (Pm × V)} {x : Dr} {A : iN} {l : List Dr} (hs : ud st ms = some (x, A, l)) (wv : ∀ m ∈ ms, ∃ v, fY c st w m.2 v) :
   ∃ (c1 : Cz) (gg : Nat → List Nat) (b o cap : Nat), Rel w0 mu c1 (fy st x A l) a w ∧ Fw c st w c1 (fy st x A l) w ∧ Rp c c1 st w x A l gg b o cap ∧
     ∀ m ∈ ms, ∀ v, fY c st w m.2 v → fY c1 (fy st x A l) w (RU (st.length - 1) (pF st (st.length - 1) + 1) l m).2 v := by
 obtain ⟨hl, hA, gP, xY, hep, qk, LS, gW⟩ := zE hs; have rM : ∀ y ∈ l, ∃ v, kX c st w y.cv v := by
   intro y hy; rw [hl] at hy; obtain ⟨m, hm, e | ⟨cs, e, hc⟩⟩ := Dh hy
   · obtain ⟨v, hv⟩ := wv m hm; rw [e] at hv; exact ⟨v, hv⟩
   · obtain ⟨v, hv⟩ := wv m hm; rw [e] at hv; obtain ⟨vs, rfl, hL⟩ := hv; obtain ⟨k, hk⟩ := List.mem_iff_getElem?.1 hc; have dm : k < vs.toList.length := by rw [← hL.1]; exact (List.getElem?_eq_some_iff.1 hk).1
     exact ⟨_, hL.2 k _ _ hk (List.getElem?_eq_getElem dm)⟩
 have Xp : ∀ y ∈ l, ∀ v, kX c st w y.cv v → ∃ (gg : Nat → List Nat) (b o cap : Nat), c.lc x.a x.j = .at b o cap ∧ A.md = .dp ∧ gg b = [] ∧ w.cell? ⟨b, o + x.i * A.r.width + y.k, none⟩ = some v ∧
     (∀ (i : Nat) z, A.xs[i]? = some z → iz w (fun p k => c.own k = some (.sp x.a x.j) ∧ gg k = p) A.r [i] 0 b (o + i * A.r.width) z) ∧ (∃ z, A.xs[x.i]? = some z ∧ qH A.r z y.k = some ⟨y.q, y.ys⟩) := by
   intro y hy v hv; obtain ⟨e1, e2, e3, e4, e5⟩ := qk y hy; obtain ⟨ya, yj, yg, ye, yi, yk, yq, yys⟩ := y; simp only at e1 e2 e3 e4 e5; subst e1 e2 e3 e4 e5; obtain ⟨gg, b, o, cap, h1, h2, h3, h4, h5, h6, _⟩ := Ho hv hA hep (h.vJ hA); exact ⟨gg, b, o, cap, h1, h2, h3, h4, h5, h6⟩
 have ft := h.vJ hA; obtain ⟨y0, Xq⟩ : ∃ y, y ∈ l := by
   cases Xo : l with
   | cons y _ => exact ⟨y, List.mem_cons_self⟩
   | nil =>
     rw [Xo] at hl; unfold ud at hs; rw [← hl] at hs
     cases hs
 obtain ⟨v0, hv0⟩ := rM y0 Xq; obtain ⟨gg, b, o, cap, jh, _, Pg, _, zp, Pn⟩ := Xp y0 Xq v0 hv0; have NP : ∀ y ∈ l, ∀ v, kX c st w y.cv v → w.cell? ⟨b, o + x.i * A.r.width + y.k, none⟩ = some v ∧ (∃ z, A.xs[x.i]? = some z ∧ qH A.r z y.k = some ⟨y.q, y.ys⟩) := by
   intro y hy v hv; obtain ⟨_, b', o', I3, h1, _, _, h4, _, h6⟩ := Xp y hy v hv; rw [jh] at h1; injection h1 with e1 e2 e3; subst e1 e2 e3; exact ⟨h4, h6⟩
 have NQ : ∀ n : Nat, ∃ lc : Loc, ∀ y, l[n]? = some y → ∃ v, w.cell? ⟨b, o + x.i * A.r.width + y.k, none⟩ = some v ∧ v.oneCell' = true ∧ jJ lc y.q.width 0 y.ys.length v ∧
     ((lc = .nil ∧ y.ys = []) ∨ ∃ b' off I3, lc = .at b' off I3 ∧ (c.own b' = some (.sp x.a x.j) ∧ gg b' = [x.i, y.k]) ∧ y.ys.length ≤ I3 ∧ (∃ cur ty, w.heap[b']? = some (.cells cur ty (0, 0)) ∧ off + I3 * y.q.width ≤ cur.size) ∧
       ∀ (i : Nat) z, y.ys[i]? = some z → iz w (fun p k => c.own k = some (.sp x.a x.j) ∧ gg k = p) y.q ([x.i, y.k] ++ [i]) 0 b' (off + i * y.q.width) z) := by
   intro n
   cases hn : l[n]? with
   | none => exact ⟨.nil, fun y hy => by cases hy⟩
   | some y =>
     have hy := List.mem_of_getElem? hn; obtain ⟨v, hv⟩ := rM y hy; obtain ⟨h4, z, PO, PQ⟩ := NP y hy v hv; obtain ⟨v', q1, q2⟩ := AJ A.r [x.i] 0 _ z y.k (zp x.i z PO) PQ; rw [h4] at q1
     cases q1
     obtain ⟨lc, r1, r2, r3⟩ := (v7 _ _ _ _ _ _).1 q2; refine ⟨lc, fun y' Ph => ?_⟩
     cases Ph
     exact ⟨v, h4, r2, r1, by simpa using r3⟩
 obtain ⟨M7, Sp⟩ := Classical.axiomOfChoice NQ; have hb : c.own b = some (.sp x.a x.j) := by
   unfold cz at ft; rw [jh] at ft; have := ft.1
   rwa [gP] at this
 let P := st.length - 1
 let c1 := c.split x.a x.j x.i P gg l M7
 have zG := wy (A := A) (l := l) gW; obtain ⟨sla, Rq, ha2, Xr⟩ := bN hA; have Sq : P < st.length := by
   have := F2 Rq; show st.length - 1 < st.length; omega
 obtain ⟨slP, hP⟩ : ∃ s, nth st P = some s := ⟨st[P], by rw [gO]; exact List.getElem?_eq_getElem Sq⟩; have hgP : pF st P = slP.ag := by unfold pF; rw [hP]
 have Fi : ∀ s k, s ≠ P → c1.lc s k = c.lc s k := fun s k e => by show (if s = P then _ else _) = _; rw [if_neg e]
 have NR : ∀ k, c1.lc P k = M7 k := fun k => by show (if P = P then _ else _) = _; rw [if_pos rfl]
 have AM : ∀ s, ev st s ≤ ev (fy st x A l) s ∧ jg st s = jg (fy st x A l) s ∧ ou st s ≤ ou (fy st x A l) s ∧ (s = P ∨ s = x.a → nth st s ≠ none → ou (fy st x A l) s ≠ ou st s) := by
   intro s; unfold ev jg ou; rw [zG]
   by_cases e : s = st.length - 1
   · rw [if_pos e]
     cases nth st s with
     | none => simp
     | some z => refine ⟨by simp, rfl, by simp, fun _ _ => by simp⟩
   · rw [if_neg e]
     by_cases e2 : s = x.a
     · rw [if_pos e2]
       cases nth st s with
       | none => simp
       | some z => refine ⟨by simp, rfl, by simp, fun _ _ => by simp⟩
     · rw [if_neg e2]; exact ⟨Nat.le_refl _, rfl, Nat.le_refl _, fun h => absurd h (by rintro (h | h); exact e h; exact e2 h)⟩
 have Xs : ev (fy st x A l) P = slP.ag + 1 := by
   unfold ev; rw [zG, if_pos rfl, hP]; rfl
 have hY : Fw c st w c1 (fy st x A l) w := {
   stays := ⟨Nat.le_refl _, fun _ _ _ => rfl, fun _ _ h => Cz.zF.2 h⟩
   refs := fun a' j' g' A2 hg Jf => by
     obtain ⟨sl, k1, k2, k3⟩ := bN Jf; rw [zG] at k1
     by_cases e : a' = st.length - 1
     · rw [if_pos e] at k1; obtain ⟨z, hz, rfl⟩ := Option.map_eq_some_iff.1 k1; unfold ev at hg; rw [hz] at hg; simp only at k2 hg; omega
     · rw [if_neg e] at k1
       by_cases e2 : a' = x.a
       · rw [if_pos e2] at k1; obtain ⟨z, hz, rfl⟩ := Option.map_eq_some_iff.1 k1; have Xt := (AM a').2.2.2 (.inr e2) (by rw [hz]; simp); simp only at k2 k3; rw [ec] at k3
         by_cases e3 : j' = x.j
         · rw [if_pos e3] at k3; subst e2 e3; rw [Rq] at hz
           cases hz
           rw [Xr] at k3; simp only [Option.map_some, Option.some.injEq] at k3; subst k3; exact ⟨A, pg Rq k2 Xr, rfl, rfl, Fi _ _ e, fun he => absurd he Xt⟩
         · rw [if_neg e3] at k3; exact ⟨A2, pg hz k2 k3, rfl, rfl, Fi _ _ e, fun he => absurd he Xt⟩
       · rw [if_neg e2] at k1; exact ⟨A2, pg k1 k2 k3, rfl, rfl, Fi _ _ e, fun _ => ⟨rfl, fun _ _ _ _ => rfl⟩⟩
   CI := fun b' g' ow _ mo => by
     refine ⟨⟨ow, ?_⟩, rfl⟩; unfold eR at mo ⊢; rw [zG] at mo
     by_cases e : b' = st.length - 1
     · rw [if_pos e] at mo
       cases hz : nth st b' with
       | none => rw [hz] at mo; cases mo
       | some z => rw [hz] at mo; exact mo
     · rw [if_neg e] at mo
       by_cases e2 : b' = x.a
       · rw [if_pos e2] at mo
         cases hz : nth st b' with
         | none => rw [hz] at mo; cases mo
         | some z => rw [hz] at mo; exact mo
       · rw [if_neg e2] at mo; exact mo
   gA := fun s => (AM s).1
   gB := fun s => Nat.le_of_eq (AM s).2.1
   gE := fun s => (AM s).2.2.1 }
 have Xu : ∀ t, da (fy st x A l) t = da st t := by
   intro t; unfold da; rw [zG]
   by_cases e : t = st.length - 1
   · rw [if_pos e]; cases nth st t <;> rfl
   · rw [if_neg e]
     by_cases e2 : t = x.a
     · rw [if_pos e2]; cases nth st t <;> rfl
     · rw [if_neg e2]
 have other : ∀ s k B, cz c w s k B → ¬ (s = x.a ∧ k = x.j) → s ≠ P → cz c1 w s k B := by
   intro s k B hB hn hsP; refine hB.go hY.stays (Fi s k hsP) (fun kb hk => ⟨rfl, Cz.rk ?_⟩)
   rintro ⟨h1, _⟩
   rw [hk] at h1; injection h1 with h1; injection h1 with e1 e2; exact hn ⟨e1, e2⟩
 have acK : Rel w0 mu c1 (fy st x A l) a w := {
   gJ := fun t => by rw [Xu]; exact hY.pG (h.gJ t)
   boxes := fun s sl cs hs mo => by
     have : ∃ Rl, nth st s = some Rl ∧ Rl.box = some cs := by
       rw [zG] at hs
       by_cases e : s = st.length - 1
       · rw [if_pos e] at hs; obtain ⟨z, hz, rfl⟩ := Option.map_eq_some_iff.1 hs; exact ⟨z, hz, mo⟩
       · rw [if_neg e] at hs
         by_cases e2 : s = x.a
         · rw [if_pos e2] at hs; obtain ⟨z, hz, rfl⟩ := Option.map_eq_some_iff.1 hs; exact ⟨z, hz, mo⟩
         · rw [if_neg e2] at hs; exact ⟨sl, hs, mo⟩
     obtain ⟨Rl, jb, RY⟩ := this; have Cf := h.boxes s Rl cs jb RY; refine Cf.go hY rfl (Cz.rk ?_) rfl
     rintro ⟨h1, _⟩
     rw [Cf.1] at h1
     cases h1
   aP := fun s k sl B hs hB => by
     rw [zG] at hs
     by_cases e : s = st.length - 1
     · rw [if_pos e] at hs; obtain ⟨z, hz, rfl⟩ := Option.map_eq_some_iff.1 hs; simp only at hB; rw [gO, List.getElem?_map] at hB
       cases hy : l[k]? with
       | none => rw [hy] at hB; cases hB
       | some y =>
         rw [hy] at hB; simp only [Option.map_some, Option.some.injEq] at hB; subst hB; obtain ⟨v, r1, r2, r3, r4⟩ := Sp k y hy; have es : s = P := e; rw [es]; unfold cz; rw [NR]; rcases r4 with ⟨e4, e5⟩ | ⟨b', off, I3, e4, ⟨q1, q2⟩, q3, q4, q5⟩
         · rw [e4]; exact e5
         · rw [e4]; refine ⟨Cz.HE LS q1 hy (q := []) q2, q3, q4, ?_⟩; unfold cf; show match (bif y.q.eQ then Md.dp else Md.sh) with | .sh => _ | .dp => _ | .ho => True
           cases PR : y.q.eQ with
           | false => exact fun i z hz => iz.G7 _ _ _ _ _ z PR (q5 i z hz)
           | true =>
             refine ⟨fun k => (gg k).drop 2, by show List.drop 2 (gg b') = []; rw [q2]; rfl, fun i z hz => iz.go _ _ [i] (fun q kb hk => ⟨rfl, Cz.HE LS hk.1 hy (q := [i] ++ q) (by rw [hk.2]; simp), by show List.drop 2 (gg kb) = _; rw [hk.2]; simp⟩) _ _ _ z rfl (q5 i z hz)⟩
     · rw [if_neg e] at hs
       by_cases e2 : s = x.a
       · rw [if_pos e2] at hs; obtain ⟨z, hz, rfl⟩ := Option.map_eq_some_iff.1 hs; simp only at hB; rw [ec] at hB
         by_cases e3 : k = x.j
         · rw [if_pos e3] at hB; subst e2 e3; rw [Rq] at hz
           cases hz
           rw [Xr] at hB; simp only [Option.map_some, Option.some.injEq] at hB; subst hB; unfold cz at ft ⊢; rw [Fi _ _ e, jh]; rw [jh] at ft; obtain ⟨h0, h2, h3, _⟩ := ft; refine ⟨?_, h2, h3, trivial⟩; show match A.own with | true => _ | false => _
           rw [gP]; show c1.own b = _; rw [Cz.rk]
           · exact hb
           · rintro ⟨_, y, q, _, hq⟩
             rw [Pg] at hq
             cases hq
         · rw [if_neg e3] at hB; exact other s k B (h.aP s k z B hz hB) (fun hh => e3 hh.2) e
       · rw [if_neg e2] at hs; exact other s k B (h.aP s k sl B hs hB) (fun hh => e2 hh.1) e
   owned := fun kb lb hk => by
     rcases Cz.Jm hk with h1 | ⟨h1, n, rfl⟩
     · exact h.owned kb lb h1
     · obtain ⟨g1, g2⟩ := h.owned kb _ h1; exact ⟨g1, .inr (g2.resolve_left (by simp))⟩
   free := fun kb dm hk => h.free kb dm (Cz.zF.1 hk)
   kept := h.kept
   old := h.old
   plain := h.plain
   fw := fun p hp => hY.fw (h.fw p hp) }
 refine ⟨c1, gg, b, o, cap, acK, hY, ⟨jh, by rw [Fi _ _ gW]; exact jh, hb, Pg, zp, fun k hk hq => ?_, fun n y hn => ?_, ?_⟩, ?_⟩
 · show c1.own k = _; rw [Cz.rk]
   · exact hk
   · rintro ⟨_, y, q, hy, hq'⟩
     exact hq y hy q hq'
 · obtain ⟨v, r1, r2, r3, _⟩ := Sp n y hn; refine ⟨v, r1, r2, by rw [NR]; exact r3, ?_⟩; obtain ⟨v', oz⟩ := rM y (List.mem_of_getElem? hn); obtain ⟨_, z, _, PQ⟩ := NP y (List.mem_of_getElem? hn) v' oz; exact HC _ _ _ PQ
 · obtain ⟨z, PO, _⟩ := Pn; exact (List.getElem?_eq_some_iff.1 PO).1
 · -- IU values Nb V1 kL
   have cell : ∀ cv v, kX c st w cv v → (∀ a j g e i k q ys, cv = .qg a j g e i k q ys → (⟨a, j, g, e, i, k, q, ys⟩ : Dr) ∈ l) → kX c1 (fy st x A l) w (RS (st.length - 1) (pF st (st.length - 1) + 1) l cv) v := by
     intro cv v hv hm
     cases cv with
     | qg a j g e i k q ys =>
       have hy := hm _ _ _ _ _ _ _ _ rfl; obtain ⟨n, hn⟩ := List.mem_iff_getElem?.1 hy; have NS : posOf k 0 l = n := HB LS hn; show kX c1 (fy st x A l) w (.ref P (posOf k 0 l) (pF st P + 1) .full) v; rw [NS]; obtain ⟨v', r1, r2, r3, _⟩ := Sp n _ hn; have hvv := (NP _ hy v hv).1; rw [r1] at hvv
       cases hvv
       refine ⟨r2, by rw [Xs, hgP]; exact Nat.le_refl _, fun B hB => ?_⟩; obtain ⟨sl, k1, k2, k3⟩ := bN hB; rw [zG, if_pos rfl] at k1; obtain ⟨z, hz, rfl⟩ := Option.map_eq_some_iff.1 k1; simp only at k3; rw [gO, List.getElem?_map, hn] at k3; simp only [Option.map_some, Option.some.injEq] at k3; subst k3; rw [NR]; exact r3
     | _ => exact hY.RW hv
   intro m hm v hv; obtain ⟨pm, mv⟩ := m
   cases pm with
   | io => cases mv with
     | one cv =>
       exact cell cv v hv (fun a j g e i k q ys e1 => by rw [hl]; subst e1; exact Fh hm)
     | _ => exact hY.pG hv
   | bW => cases mv with
     | agg cs =>
       obtain ⟨vs, rfl, hL⟩ := hv; refine ⟨vs, rfl, by rw [List.length_map]; exact hL.1, fun i y u hy hu => ?_⟩; rw [List.getElem?_map] at hy; obtain ⟨y0, Xq, rfl⟩ := Option.map_eq_some_iff.1 hy; exact cell y0 u (hL.2 i y0 u Xq hu) (fun a j g e i k q ys e1 => by rw [hl]; subst e1; exact BE (List.mem_of_getElem? Xq) hm)
     | _ => exact hY.pG hv
   | _ => cases mv <;> exact hY.pG hv
end Go.TM
namespace Go.TM
open Go Go.RowKit
theorem Rel.clear {w0 : World} {mu : Mu} {c : Cz} {st : St} {a : Act} {w : World} (h : Rel w0 mu c st a w) (P : Nat) : Rel w0 mu c (nA (fun s => { s with aP := [], ep := s.ep + 1 }) st P) a w ∧ Fw c st w c (nA (fun s => { s with aP := [], ep := s.ep + 1 }) st P) w := by
 have hn : ∀ s, nth (nA (fun s => { s with aP := [], ep := s.ep + 1 }) st P) s = if s = P then (nth st s).map (fun z => { z with aP := [], ep := z.ep + 1 }) else nth st s := fun s => ec _ _ _ _
 generalize nA (fun s => { s with aP := [], ep := s.ep + 1 }) st P = bh at hn ⊢; have hY : Fw c st w c bh w := {
   stays := jI.refl w _
   refs := fun a' j' g' A' _ ft => by
     obtain ⟨sl, k1, k2, k3⟩ := bN ft; rw [hn] at k1
     by_cases e : a' = P
     · rw [if_pos e] at k1; obtain ⟨z, hz, rfl⟩ := Option.map_eq_some_iff.1 k1; simp [nth] at k3
     · rw [if_neg e] at k1; exact ⟨A', pg k1 k2 k3, rfl, rfl, rfl, fun _ => ⟨rfl, fun _ _ _ _ => rfl⟩⟩
   CI := fun b' g' ow _ mo => by
     refine ⟨⟨ow, ?_⟩, rfl⟩; unfold eR at mo ⊢; rw [hn] at mo
     by_cases e : b' = P
     · rw [if_pos e] at mo
       cases hz : nth st b' with
       | none => rw [hz] at mo; cases mo
       | some z => rw [hz] at mo; exact mo
     · rw [if_neg e] at mo; exact mo
   gA := fun s => by
     unfold ev; rw [hn]
     by_cases e : s = P
     · rw [if_pos e]; cases nth st s <;> simp
     · rw [if_neg e]; exact Nat.le_refl _
   gB := fun s => by
     unfold jg; rw [hn]
     by_cases e : s = P
     · rw [if_pos e]; cases nth st s <;> simp
     · rw [if_neg e]; exact Nat.le_refl _
   gE := fun s => by
     unfold ou; rw [hn]
     by_cases e : s = P
     · rw [if_pos e]; cases nth st s <;> simp
     · rw [if_neg e]; exact Nat.le_refl _ }
 refine ⟨{
   gJ := fun t => by
     have : da bh t = da st t := by
       unfold da; rw [hn]
       by_cases e : t = P
       · rw [if_pos e]; cases nth st t <;> rfl
       · rw [if_neg e]
     rw [this]; exact hY.pG (h.gJ t)
   boxes := fun s sl cs hs hb => by
     rw [hn] at hs
     by_cases e : s = P
     · rw [if_pos e] at hs; obtain ⟨z, hz, rfl⟩ := Option.map_eq_some_iff.1 hs; exact (h.boxes s z cs hz hb).go hY rfl rfl rfl
     · rw [if_neg e] at hs; exact (h.boxes s sl cs hs hb).go hY rfl rfl rfl
   aP := fun s j sl A hs hA => by
     rw [hn] at hs
     by_cases e : s = P
     · rw [if_pos e] at hs; obtain ⟨z, hz, rfl⟩ := Option.map_eq_some_iff.1 hs; simp [nth] at hA
     · rw [if_neg e] at hs; exact h.aP s j sl A hs hA
   owned := h.owned
   free := h.free
   kept := h.kept
   old := h.old
   plain := h.plain
   fw := fun p hp => hY.fw (h.fw p hp) }, hY⟩
theorem Rel.swap {w0 : World} {mu : Mu} {c : Cz} {st : St} {a : Act} {w : World} (h : Rel w0 mu c st a w) {s j g : Nat} {H B : iN} (hH : bl st s j g = some H) (hw : B.r.width = H.r.width) (hn : B.xs.length = H.xs.length) (hB : cz c w s j B) :
   Rel w0 mu (c.eT id c.bx c.lc) (cj st s j (some B)) a w := by
 have hY : Fw c st w (c.eT id c.bx c.lc) (cj st s j (some B)) w := AL (.inl hH) (fun _ e => by cases e; exact ⟨hw, hn⟩) id; have hX : kY (fun _ => False) w0 mu c st a w := ⟨h.gJ, fun s sl cs _ => h.boxes s sl cs, fun s j sl A _ => h.aP s j sl A, h.owned, h.free, h.kept, h.old, h.plain, h.fw⟩; refine (hX.eT rK hY (fun t => by rw [wq]; exact hY.pG (h.gJ t)) (fun k sl cs _ hs hb => ?_) (fun k i sl A _ hs hA => ?_)).rel
 · obtain ⟨f, hf, hk⟩ := im st s j (some B) k; rw [hk] at hs
   cases hx : nth st k with
   | none => rw [hx] at hs; simp at hs
   | some x =>
     rw [hx] at hs; simp at hs; subst hs; rw [(hf x).2.1] at hb; exact (h.boxes k x cs hx hb).eT rK hY rfl
 · obtain ⟨f, hf, hk⟩ := im st s j (some B) k; rw [hk] at hs
   cases hx : nth st k with
   | none => rw [hx] at hs; simp at hs
   | some x =>
     rw [hx] at hs; simp at hs; subst hs; rw [(hf x).2.2.2.2.1 i] at hA
     by_cases e : k = s ∧ i = j
     · rw [if_pos e] at hA; obtain ⟨rfl, rfl⟩ := e
       cases hq : nth x.aP i with
       | none => simp [hq] at hA
       | some A1 =>
         simp only [hq, Option.map_some, Option.some.injEq] at hA; subst hA; exact hB.eT rK rfl
     · rw [if_neg e] at hA; exact (h.aP k i x A hx hA).eT rK rfl
def jk (w : World) (P : List Nat → Nat → Prop) (K : Nat → Prop) : (r : RT) → (p : List Nat) → (k : Nat) → List Value → aq r → Prop
 | .nil, _, _, vs, _ => vs = []
 | .cons t r, p, k, vs, x => ∃ v l, vs = v :: l ∧ (¬ K k → dZ w P t (p ++ [k]) v x.1) ∧ jk w P K r p (k + 1) l x.2
theorem jk.of {w w' : World} {P P' : List Nat → Nat → Prop} {K : Nat → Prop} : (r : RT) → (p : List Nat) → (hP : ∀ k q b, ¬ K k → P (p ++ [k] ++ q) b → w'.heap[b]? = w.heap[b]? ∧ P' (p ++ [k] ++ q) b) → (k : Nat) → (vs : List Value) → (x : aq r) → eM w P r p k vs x → jk w' P' K r p k vs x
 | .nil, _, _, _, _, _, h => h
 | .cons t r, p, hP, k, vs, x, h => by
   obtain ⟨v, l, e, h1, h2⟩ := h; exact ⟨v, l, e, fun hk => dZ.go t (p ++ [k]) (p ++ [k]) (fun q b hb => hP k q b hk hb) v x.1 h1, jk.of r p hP (k + 1) l x.2 h2⟩
theorem jk.full {w : World} {P : List Nat → Nat → Prop} {K : Nat → Prop} (hK : ∀ k, ¬ K k) : (r : RT) → (p : List Nat) → (k : Nat) → (vs : List Value) → (x : aq r) → jk w P K r p k vs x → eM w P r p k vs x
 | .nil, _, _, _, _, h => h
 | .cons t r, p, k, vs, x, h => by
   obtain ⟨v, l, e, h1, h2⟩ := h; exact ⟨v, l, e, h1 (hK k), jk.full hK r p (k + 1) l x.2 h2⟩
theorem jk.mono {w : World} {P : List Nat → Nat → Prop} {K K' : Nat → Prop} : (r : RT) → (p : List Nat) → (k : Nat) → (hK : ∀ c, k ≤ c → K c → K' c) → (vs : List Value) → (x : aq r) → jk w P K r p k vs x → jk w P K' r p k vs x
 | .nil, _, _, _, _, _, h => h
 | .cons t r, p, k, hK, vs, x, h => by
   obtain ⟨v, l, e, h1, h2⟩ := h; exact ⟨v, l, e, fun hk => h1 fun h => hk (hK k (Nat.le_refl _) h), jk.mono r p (k + 1) (fun c hc => hK c (by omega)) l x.2 h2⟩
theorem jk.set {w : World} {P : List Nat → Nat → Prop} {q : RT} {ys : List (aq q)} {v : Value} : {K : Nat → Prop} → (r : RT) → (p : List Nat) → (k0 : Nat) → (vs : List Value) → (x : aq r) → (col : Nat) → {z : aq r} → jk w P K r p k0 vs x → nD r x col q ys = some z → vs[col]? = some v → dZ w P (.sl q) (p ++ [k0 + col]) v ys →
   jk w P (fun c => K c ∧ c ≠ k0 + col) r p k0 vs z
 | _, .nil, _, _, _, _, _, _, _, h, _, _ => by simp [nD] at h
 | K, .cons t r, p, k0, vs, x, 0, z, hx, h, hv, hd => by
   obtain ⟨v', l, rfl, h1, h2⟩ := hx
   cases t with
   | sl q' =>
     have h : (ck q' ys).map (fun zs => ((zs, x.2) : aq (.cons (.sl q') r))) = some z := h; obtain ⟨zs, Xv, hz⟩ := Option.map_eq_some_iff.1 h; obtain ⟨e, rfl⟩ := bA Xv; subst e; subst hz; simp only [List.getElem?_cons_zero, Option.some.injEq] at hv; subst hv; exact ⟨v', l, rfl, fun _ => hd, jk.mono r p (k0 + 1) (fun c hc hK => ⟨hK, by omega⟩) l x.2 h2⟩
   | int _ => simp [nD] at h
   | bool => simp [nD] at h
   | str => simp [nD] at h
 | K, .cons t r, p, k0, vs, x, col + 1, z, hx, h, hv, hd => by
   obtain ⟨v', l, rfl, h1, h2⟩ := hx; have h' : (nD r x.2 col q ys).map (fun z => ((x.1, z) : aq (.cons t r))) = some z := by cases t <;> exact h
   obtain ⟨z', hz', hz⟩ := Option.map_eq_some_iff.1 h'; subst hz; have := jk.set r p (k0 + 1) l x.2 col h2 hz' (by simpa using hv) (by rw [show k0 + 1 + col = k0 + (col + 1) by omega]; exact hd); refine ⟨v', l, rfl, fun hk => h1 fun h => hk ⟨h, by omega⟩, ?_⟩
   rwa [show k0 + 1 + col = k0 + (col + 1) by omega] at this
theorem Jn {w : World} {P : List Nat → Nat → Prop} {p : List Nat} {v : Value} {r s : RT} {xs : List (aq r)} {ys : List (aq s)} (h : ck s xs = some ys) (hd : dZ w P (.sl r) p v xs) : dZ w P (.sl s) p v ys := by
 obtain ⟨e, rfl⟩ := bA h; subst e; exact hd
theorem Di {st : St} {P g : Nat} {r : RT} {w : World} {PP : List Nat → Nat → Prop} {p : List Nat} {vs : List Value} : (n : Nat) → (l : List Dr) → (z : aq r) → {z' : aq r} → ue st P g r n l z = some z' →
   (∀ m y, l[m]? = some y → ∀ B, bl st P (n + m) g = some B → B.own = true → B.md = y.q.md → B.r = y.q → ∃ v, vs[y.k]? = some v ∧ dZ w PP (.sl B.r) (p ++ [y.k]) v B.xs) →
   jk w PP (fun c => ∃ y ∈ l, y.k = c) r p 0 vs z → eM w PP r p 0 vs z'
 | n, [], z, z', h, _, hx => by
   simp only [ue, Option.some.injEq] at h; subst h; exact jk.full (by simp) _ _ _ _ _ hx
 | n, y :: l, z, z', h, hy, hx => by
   unfold ue at h
   cases hB : bl st P n g with
   | none => rw [hB] at h; cases h
   | some B =>
     rw [hB] at h; obtain ⟨h1, h2⟩ := aH h; clear h; rw [Bool.and_eq_true] at h1
     cases hc : ck y.q B.xs with
     | none => rw [hc] at h2; cases h2
     | some ys =>
       rw [hc] at h2; simp only at h2
       cases hr : nD r z y.k y.q ys with
       | none => rw [hr] at h2; cases h2
       | some z1 =>
         rw [hr] at h2; simp only at h2; obtain ⟨e, he⟩ := bA hc; obtain ⟨v, hv, hd⟩ := hy 0 y rfl B hB h1.1 (Md.oG.1 h1.2) e; have KO : dZ w PP (.sl y.q) (p ++ [0 + y.k]) v ys := by
           rw [Nat.zero_add]; exact Jn hc hd
         refine Di (n + 1) l z1 h2 (fun m y' hm B' EB => hy (m + 1) y' (by simpa using hm) B' (by rw [show n + (m + 1) = n + 1 + m by omega]; exact EB)) ?_; have := jk.set _ _ _ _ _ _ hx hr hv KO; refine jk.mono _ _ _ (fun c _ hc => ?_) _ _ this; obtain ⟨⟨y', Ph, e'⟩, gW⟩ := hc; rcases List.mem_cons.1 Ph with rfl | Ph
         · exact absurd e'.symm (by omega)
         · exact ⟨y', Ph, e'⟩
theorem NT {w0 : World} {mu : Mu} {c c1 c5 : Cz} {st il bh : St} {a2 : Act} {w w' : World} {x : Dr} {A : iN} {l : List Dr} {gg : Nat → List Nat} {b o cap : Nat} (gW : x.a ≠ st.length - 1) (I7 : bl st x.a x.j x.g = some A) (gP : A.own = true) (xY : A.md = .dp)
   (hA : cz c w x.a x.j A) (LS : F1 (l.map (·.k)) = true) (EH : Rp c c1 st w x A l gg b o cap) (h5 : Rel w0 mu c5 il a2 w') (hY : Fw c1 (fy st x A l) w c5 il w')
   (M6 : ∀ k, c1.own k = some (.sp x.a x.j) → w'.heap[k]? = w.heap[k]? ∧ c5.own k = some (.sp x.a x.j))
   (hv : (I0 (st.length - 1) (pF st (st.length - 1) + 1) x A l il).val = some bh) : ∃ c6, Rel w0 mu c6 bh a2 w' := by
 unfold I0 at hv
 cases hH : bl il x.a x.j x.g with
 | none => rw [hH] at hv; cases hv
 | some H =>
   rw [hH] at hv; simp only at hv; obtain ⟨_, hv⟩ := fl hv
   cases hz : A.xs[x.i]? with
   | none => rw [hz] at hv; cases hv
   | some z =>
     rw [hz] at hv; have hv : (match ue il (st.length - 1) (pF st (st.length - 1) + 1) A.r 0 l z with
       | some z' => N.done (cj (nA (fun s => { s with aP := [], ep := s.ep + 1 }) il (st.length - 1)) x.a x.j (some (A.put (A.xs.set x.i z'))))
       | none => .fail).val = some bh := hv
     cases hj : ue il (st.length - 1) (pF st (st.length - 1) + 1) A.r 0 l z with
     | none => rw [hj] at hv; cases hv
     | some z' =>
       rw [hj] at hv; simp only [N.val, Option.some.injEq] at hv; subst hv; obtain ⟨P, hP⟩ : ∃ P, P = st.length - 1 := ⟨_, rfl⟩; rw [← hP] at gW hj ⊢; have Nw := gW; rw [hP] at Nw; have zG := wy (A := A) (l := l) Nw; rw [← hP] at zG; obtain ⟨sla, Rq, ha2, Xr⟩ := bN I7; have hgA : x.g ≤ ev (fy st x A l) x.a := by
         unfold ev; rw [zG, if_neg gW, if_pos rfl, Rq]; show x.g ≤ sla.ag; omega
       have hfa : ∀ B0, bl (fy st x A l) x.a x.j x.g = some B0 → B0.r.width = A.r.width ∧ B0.xs.length = A.xs.length := by
         intro B0 hB0; obtain ⟨sl, k1, k2, k3⟩ := bN hB0; rw [zG, if_neg gW, if_pos rfl, Rq] at k1; simp only [Option.map_some, Option.some.injEq] at k1; subst k1; simp only at k3; rw [ec, if_pos rfl, Xr] at k3; simp only [Option.map_some, Option.some.injEq] at k3; subst k3; exact ⟨rfl, rfl⟩
       obtain ⟨B0, q1, q2, q3, q4, _⟩ := hY.refs x.a x.j x.g H hgA hH; obtain ⟨e1, e2⟩ := hfa B0 q1; have acM : c5.lc x.a x.j = .at b o cap := q4.trans EH.lc1; have hPs : ∀ n B, bl il P n (pF st P + 1) = some B → ∃ y, l[n]? = some y ∧ B.xs.length = y.ys.length ∧ B.r.width = y.q.width ∧ c5.lc P n = c1.lc P n := by
         intro n B hB; have hgP : pF st P + 1 ≤ ev (fy st x A l) P := by
           unfold ev; rw [zG, if_pos rfl]; have Sq : P < st.length := by have := F2 Rq; omega
           have : nth st P = some st[P] := by rw [gO]; exact List.getElem?_eq_getElem Sq
           rw [this]; unfold pF; rw [this]; exact Nat.le_refl _
         obtain ⟨B1, r1, r2, r3, r4, _⟩ := hY.refs P n _ B hgP hB; obtain ⟨sl, k1, k2, k3⟩ := bN r1; rw [zG, if_pos rfl] at k1; obtain ⟨zz, Sr, rfl⟩ := Option.map_eq_some_iff.1 k1; simp only at k3; rw [gO, List.getElem?_map] at k3
         cases hy : l[n]? with
         | none => rw [hy] at k3; cases k3
         | some y =>
           rw [hy] at k3; simp only [Option.map_some, Option.some.injEq] at k3; subst k3; exact ⟨y, rfl, r3, r2, r4⟩
       have hG : ∃ G : Nat → Nat → List Nat, ∀ n B y, bl il P n (pF st P + 1) = some B → B.own = true → B.md = B.r.md → l[n]? = some y → ∀ v, v.oneCell' = true → jJ (c5.lc P n) B.r.width 0 B.xs.length v →
           ∀ (PP : List Nat → Nat → Prop) (p : List Nat), (∀ k, c5.own k = some (.sp P n) → PP (p ++ G n k) k) → dZ w' PP (.sl B.r) p v B.xs := by
         have : ∀ n, ∃ G : Nat → List Nat, ∀ B y, bl il P n (pF st P + 1) = some B → B.own = true → B.md = B.r.md → l[n]? = some y → ∀ v, v.oneCell' = true → jJ (c5.lc P n) B.r.width 0 B.xs.length v →
           ∀ (PP : List Nat → Nat → Prop) (p : List Nat), (∀ k, c5.own k = some (.sp P n) → PP (p ++ G k) k) → dZ w' PP (.sl B.r) p v B.xs := by
           intro n
           by_cases e : ∃ B, bl il P n (pF st P + 1) = some B ∧ B.own = true ∧ B.md = B.r.md
           · obtain ⟨B, hB, ho, hm⟩ := e
             by_cases e2 : ∃ v : Value, v.oneCell' = true ∧ jJ (c5.lc P n) B.r.width 0 B.xs.length v
             · obtain ⟨v, Cp, Jk⟩ := e2; obtain ⟨g, hg⟩ := Ns (h5.vJ hB) ho hm; refine ⟨g, fun B' y EB _ _ _ v' h1 h2 PP p hP' => ?_⟩; rw [hB] at EB
               cases EB
               exact hg v' h1 h2 PP p hP'
             · refine ⟨fun _ => [], fun B' y EB _ _ _ v' h1 h2 => ?_⟩; rw [hB] at EB
               cases EB
               exact absurd ⟨v', h1, h2⟩ e2
           · exact ⟨fun _ => [], fun B' y EB h1 h2 => absurd ⟨B', EB, h1, h2⟩ e⟩
         obtain ⟨G, hG⟩ := Classical.axiomOfChoice this; exact ⟨G, fun n => hG n⟩
       obtain ⟨G, hG⟩ := hG; have PS : ∃ g6 : Nat → List Nat, (∀ k, c5.own k = some (.sp x.a x.j) → g6 k = gg k) ∧ ∀ n y k, l[n]? = some y → c5.own k = some (.sp P n) → g6 k = [x.i] ++ [y.k] ++ G n k := by
         have key : ∀ k, ∃ q : List Nat, (c5.own k = some (.sp x.a x.j) → q = gg k) ∧ ∀ n y, l[n]? = some y → c5.own k = some (.sp P n) → q = [x.i] ++ [y.k] ++ G n k := by
           intro k
           by_cases e : ∃ n y, l[n]? = some y ∧ c5.own k = some (.sp P n)
           · obtain ⟨n, y, f1, f2⟩ := e; refine ⟨[x.i] ++ [y.k] ++ G n k, fun h => ?_, fun n' y' h1 h2 => ?_⟩
             · rw [f2] at h; injection h with h; injection h with h _; exact absurd h.symm gW
             · rw [f2] at h2; injection h2 with h2; injection h2 with _ h2; subst h2; rw [f1] at h1
               cases h1
               rfl
           · exact ⟨gg k, fun _ => rfl, fun n y h1 h2 => absurd ⟨n, y, h1, h2⟩ e⟩
         obtain ⟨g6, h⟩ := Classical.axiomOfChoice key; exact ⟨g6, fun k => (h k).1, fun n y k => (h k).2 n y⟩
       obtain ⟨g6, Ss, acN⟩ := PS; obtain ⟨sy, ajW⟩ := h5.clear P; have Nu : ∀ n ∈ (List.range l.length).map (fun n => (P, n)), ∀ sl B, nth (nA (fun s => { s with aP := [], ep := s.ep + 1 }) il P) n.1 = some sl → nth sl.aP n.2 ≠ some (some B) := by
         intro n hn sl B hs; obtain ⟨m, _, rfl⟩ := List.mem_map.1 hn; rw [ec, if_pos rfl] at hs; obtain ⟨zz, _, rfl⟩ := Option.map_eq_some_iff.1 hs; simp [nth]
       have hrl := sy.kQ Nu x.a x.j; have Cg : ∀ n y, l[n]? = some y → (P, n) ∈ (List.range l.length).map (fun n => (P, n)) := fun n y hn => List.mem_map.2 ⟨n, List.mem_range.2 (List.getElem?_eq_some_iff.1 hn).1, rfl⟩
       have NU : ∀ k, c5.own k = some (.sp x.a x.j) → (c5.kQ ((List.range l.length).map (fun n => (P, n))) (.sp x.a x.j)).own k = some (.sp x.a x.j) := by
         intro k hk; rw [Cz.ri]
         · exact hk
         · intro n hn e; obtain ⟨m, _, rfl⟩ := List.mem_map.1 hn; rw [hk] at e; injection e with e; injection e with e _; exact gW e
       have hH' : bl (nA (fun s => { s with aP := [], ep := s.ep + 1 }) il P) x.a x.j x.g = some H := by
         obtain ⟨sl, k1, k2, k3⟩ := bN hH; exact pg (by rw [ec, if_neg gW]; exact k1) k2 k3
       have Xw : c1.own b = some (.sp x.a x.j) := EH.stay b EH.own (fun y _ q e => by rw [EH.g0] at e; cases e); obtain ⟨Xx, hb5⟩ := M6 b Xw; have Nt : ∀ (i : Nat) zz, (A.xs.set x.i z')[i]? = some zz → iz w' (fun p k => (c5.kQ ((List.range l.length).map (fun n => (P, n))) (.sp x.a x.j)).own k = some (.sp x.a x.j) ∧ g6 k = p) A.r [i] 0 b (o + i * A.r.width) zz := by
         intro i zz Sr; rw [List.getElem?_set] at Sr
         by_cases e : x.i = i
         · subst e; rw [if_pos rfl, if_pos EH.len] at Sr
           cases Sr
           obtain ⟨vs, r1, r2⟩ := (mq _ _ _ _ _ _).1 (EH.rows x.i z hz); have AE := eM.length _ _ _ _ _ r2; refine (mq _ _ _ _ _ _).2 ⟨vs, fun k v hkv => by rw [World.cell?_of_block (w := w) Xx]; exact r1 k v hkv, ?_⟩; refine Di 0 l z hj (fun m y hm B hB W7 Sd hBr => ?_) ?_
           · rw [Nat.zero_add] at hB; obtain ⟨v, u1, u2, u3, u4⟩ := EH.out m y hm; obtain ⟨y', f1, f2, f3, f4⟩ := hPs m B hB; rw [hm] at f1
             cases f1
             have hk : y.k < vs.length := by rw [AE]; exact u4
             have hvk : vs[y.k]? = some vs[y.k] := List.getElem?_eq_getElem hk; have := r1 y.k _ hvk; rw [u1] at this; refine ⟨v, by rw [hvk, ← Option.some.inj this], ?_⟩; refine hG m B y hB W7 (by rw [Sd, hBr]) hm v u2 (by rw [f4, f2, f3, hP]; exact u3) _ _ (fun k hk => ⟨Cz.pI (Cg m y hm) hk, ?_⟩); exact acN m y k hm hk
           · refine jk.of _ [x.i] (fun k q kb hK hk => ?_) 0 vs z r2; have s3 := EH.stay kb hk.1 (fun y hy q' e => hK ⟨y, hy, by
               have h2 := hk.2; rw [e] at h2; simp at h2; exact h2.1⟩)
             obtain ⟨f1, f2⟩ := M6 kb s3; exact ⟨f1, NU kb f2, by rw [Ss kb f2]; exact hk.2⟩
         · rw [if_neg e] at Sr; refine iz.go _ [i] [i] (fun q kb hk => ?_) _ _ _ zz Xx (EH.rows i zz Sr); have s3 := EH.stay kb hk.1 (fun y _ q' e' => e (by
             have h2 := hk.2; rw [e'] at h2; simp at h2; exact h2.1))
           obtain ⟨f1, f2⟩ := M6 kb s3; exact ⟨f1, NU kb f2, by rw [Ss kb f2]; exact hk.2⟩
       refine ⟨_, hrl.swap hH' (B := A.put (A.xs.set x.i z')) (by rw [q2, e1]; rfl) (by rw [q3, e2]; show (A.xs.set x.i z').length = _; simp) ?_⟩; unfold cz at hA ⊢; show match c5.lc x.a x.j with | .nil => _ | .at b off cap => _
       rw [acM]; rw [EH.lc] at hA; obtain ⟨_, g2, ⟨cur, ty, g3, g4⟩, _⟩ := hA; refine ⟨?_, by show (A.xs.set x.i z').length ≤ cap; simpa using g2, ⟨cur, ty, by rw [Xx]; exact g3, g4⟩, ?_⟩
       · show match A.own with | true => _ | false => _
         rw [gP]; exact NU b hb5
       · unfold cf; show match A.md with | .sh => _ | .dp => _ | .ho => True
         rw [xY]; exact ⟨g6, by rw [Ss b hb5]; exact EH.g0, Nt⟩
theorem HF {P : Program} {S : kK} (hS : ma P S) {w0 : World} {mu : Mu} {c : Cz} {st bh : St} {a : Act} {w : World} (h : Rel w0 mu c st a w) {o : Oper} {f : FuncId} {vals : Array Value} {xs : List V}
   (pJ : ∀ fn, P.funcs[f]? = some fn → fn.name ≠ "runtime.NumGoroutine" → fn.body ≠ none → (execOp a.eval o).run P w = .ok (.enter f vals) w)
   (Ky : xs.length = vals.toList.length) (Xy : ∀ (k : Nat) (m : V) (x : Value), xs[k]? = some m → vals.toList[k]? = some x → fY c st w m x)
   (hv : (E2 S st o.dst f xs).val = some bh) (hd : ∀ k, o.dst = some k → k < a.tmps.size) : xK P w0 mu bh o a w (rh S st f xs) := by
 unfold rh; unfold E2 at hv
 cases hf : S f with
 | none => simp [hf, N.val] at hv
 | some p =>
   obtain ⟨m1, m2, m3, Bo⟩ := p; simp only [hf] at hv ⊢; obtain ⟨LO, fn, NV, acO, Xz⟩ := hS f m1 m2 m3 Bo hf; have pJ := pJ fn NV (by simpa using acO) (by intro e; rw [e] at Xz; cases Xz); have Su := LN m1 m2 m3 xs; generalize zc m1 m2 m3 xs = ms at hv Su ⊢; have hlen : ms.length = vals.toList.length := by
     have := congrArg List.length Su; rw [List.length_map] at this; omega
   have wv : ∀ (k : Nat) (m : Pm × V) (x : Value), ms[k]? = some m → vals.toList[k]? = some x → fY c st w m.2 x := by
     intro k m x hm hx; have h1 : (ms.map (·.2))[k]? = some m.2 := by rw [List.getElem?_map, hm]; rfl
     rw [Su] at h1; exact Xy k m.2 x h1 hx
   have hR := h.freeze (CH st ms); have HG : ∀ (k : Nat) (m : Pm × V) (x : Value), ms[k]? = some m → vals.toList[k]? = some x → fY (c.drop (CH st ms)) (freeze st (CH st ms)) w m.2 x := fun k m x h1 h2 => (Fw.freeze w _ c st).pG (wv k m x h1 h2)
   generalize freeze st (CH st ms) = wu at hv hR HG ⊢; generalize c.drop (CH st ms) = c0 at hR HG; unfold Rf at hv
   cases C1 : ud wu ms with
   | none =>
     rw [C1] at hv; exact Hz hR pJ LO hlen HG hv hd (fun h => h) (fun c5 il a2 w' hr _ _ LP => by
       simp only [N.val, Option.some.injEq] at LP; subst LP; exact ⟨c5, hr⟩)
   | some p =>
     obtain ⟨x, A, l⟩ := p; rw [C1] at hv; simp only at hv ⊢; have XA : ∀ m ∈ ms, ∃ v, fY c0 wu w m.2 v := by
       intro m hm; obtain ⟨k, hk⟩ := List.mem_iff_getElem?.1 hm; have dm : k < vals.toList.length := by rw [← hlen]; exact (List.getElem?_eq_some_iff.1 hk).1
       exact ⟨_, HG k m _ hk (List.getElem?_eq_getElem dm)⟩
     obtain ⟨c1, gg, b, oo, cap, hR1, hF1, EH, NW⟩ := zF hR C1 XA; obtain ⟨hl, hA, gP, xY, hep, qk, LS, gW⟩ := zE C1; refine Hz hR1 pJ LO (by rw [List.length_map]; exact hlen) (fun k m v h1 h2 => ?_) hv hd (fun h => by cases h) (fun c5 il a2 w' hr hf M6 LP => ?_)
     · rw [List.getElem?_map] at h1; obtain ⟨m0, Sv, rfl⟩ := Option.map_eq_some_iff.1 h1; exact NW m0 (List.mem_of_getElem? Sv) v (HG k m0 v Sv h2)
     · refine NT gW hA gP xY (hR.vJ hA) LS EH hr hf (fun k hk => ?_) LP; have LU : ¬ wx (fy wu x A l) (x.a, x.j) := by
         rintro ⟨g', B, hB, Sd⟩
         obtain ⟨sl, k1, k2, k3⟩ := bN hB; rw [wy gW, if_neg gW, if_pos rfl] at k1; obtain ⟨zz, Sr, rfl⟩ := Option.map_eq_some_iff.1 k1; simp only at k3; rw [ec, if_pos rfl] at k3
         cases hq : nth zz.aP x.j with
         | none => rw [hq] at k3; cases k3
         | some B2 =>
           rw [hq] at k3; simp only [Option.map_some, Option.some.injEq] at k3; subst k3; exact Sd rfl
       cases hex : jf (fy wu x A l) (ms.map (RU (wu.length - 1) (pF wu (wu.length - 1) + 1) l)) with
       | none =>
         unfold G2 at hv; rw [hex] at hv
         cases hv
       | some pp =>
         obtain ⟨eg, u, q, r⟩ := pp; obtain ⟨l1, l2⟩ := BD _ hex; exact M6 eg u q r hex k _ rfl (fun hm => LU (l1 _ _ hm)) (fun p hp e => by
           injection e with e1 e2; exact LU (by rw [e1, e2]; exact l2 p hp)) hk
theorem NX {P : Program} {S : kK} (hS : ma P S) {w0 : World} {mu : Mu} {c : Cz} {st bh : St} {a : Act} {w : World} (h : Rel w0 mu c st a w) {o : Oper} {f : FuncId} {args : Array Operand} {Pk : Array TypeId} (ho : o.op = .call { callee := .value (.func f), args := args, argTypes := Pk })
   (hv : (E2 S st o.dst f (args.toList.map (nB st))).val = some bh) (hd : ∀ k, o.dst = some k → k < a.tmps.size) : xK P w0 mu bh o a w (kindOk S st o .one) := by
 have hq0 : kindOk S st o .one = rh S st f (args.toList.map (nB st)) := by unfold kindOk; simp only [ho]
 rw [hq0]; refine HF (vals := args.map a.eval) hS h (fun fn NV q2 q3 => ?_) (by simp) (fun k m x hm hx => ?_) hv hd
 · simp only [execOp, ho]; simp [resolve, Act.eval, Deferred.ofValue, invoke, callFunc, Sem.run_bind, NV, q2, q3]
 · rw [List.getElem?_map] at hm; rw [Array.toList_map, List.getElem?_map] at hx
   cases hy : args.toList[k]? with
   | none => rw [hy] at hm; simp at hm
   | some y =>
     rw [hy] at hm hx; simp only [Option.map_some, Option.some.injEq] at hm hx; rw [← hm, ← hx]; exact bY h y
theorem NY {P : Program} {S : kK} (hS : ma P S) {w0 : World} {mu : Mu} {c : Cz} {st bh : St} {a : Act} {w : World} (h : Rel w0 mu c st a w) {o : Oper} {t g : Nat} {rs : RT} {xs : List (aq rs)} {x : aq rs} {args : Array Operand} {Pk : Array TypeId} (ho : o.op = .call { callee := .value (.tmp t), args := args, argTypes := Pk })
   (ht : da st t = .one (.fn g rs xs)) (Np : xs[0]? = some x) (hv : (E2 S st o.dst g (args.toList.map (nB st) ++ vI rs x)).val = some bh) (hd : ∀ k, o.dst = some k → k < a.tmps.size) : xK P w0 mu bh o a w (kindOk S st o .one) := by
 have hq0 : kindOk S st o .one = rh S st g (args.toList.map (nB st) ++ vI rs x) := by unfold kindOk; simp only [ho, ht, Np]
 rw [hq0]; have LO := h.gJ t; rw [ht] at LO; obtain ⟨xp, e, XB⟩ := LO; obtain ⟨k1, k2⟩ := Hj (st := st) rs xp.toList x (XB x Np); refine HF (vals := args.map a.eval ++ xp) hS h (fun fn NV q2 q3 => ?_) (by simp [k1]) (fun k m y hm hy => ?_) hv hd
 · simp only [execOp, ho]; simp [resolve, e, Deferred.ofValue, invoke, callFunc, Sem.run_bind, NV, q2, q3]
 · rw [Array.toList_append] at hy
   by_cases hk : k < args.size
   · rw [List.getElem?_append_left (by simpa using hk)] at hm hy; rw [List.getElem?_map] at hm; rw [Array.toList_map, List.getElem?_map] at hy
     cases hz : args.toList[k]? with
     | none => rw [hz] at hm; simp at hm
     | some z =>
       rw [hz] at hm hy; simp only [Option.map_some, Option.some.injEq] at hm hy; rw [← hm, ← hy]; exact bY h z
   · rw [List.getElem?_append_right (by simp; omega)] at hm hy; simp only [List.length_map, Array.length_toList, Array.toList_map] at hm hy; exact k2 _ m y hm hy
theorem nI {P : Program} {T : lZ} (hT : gX P T) (hE : xq P T) {S : kK} (hS : ma P S) (w0 : World) (mu : Mu) (n : Nat) : sI P T S w0 mu n := by
 intro c st bh a w o h hn hd hv; have KO : ∀ k, o.dst = some k → k < a.tmps.size := fun k hk => by rw [hn]; exact hd k hk
 by_cases hf : Op.Jh o.op = true
 · cases ho : o.op with
   | call cl =>
     obtain ⟨callee, args, Pk⟩ := cl
     cases callee with
     | value x =>
       cases x with
       | func f =>
         unfold Ku at hv; simp only [ho] at hv; exact NX hS h ho hv KO
       | tmp t =>
         unfold Ku at hv; simp only [ho] at hv
         split at hv
         · rename_i g rs xs ht
           cases Np : xs[0]? with
           | none => simp [Np, N.val] at hv
           | some x =>
             simp only [Np] at hv; exact NY hS h ho ht Np hv KO
         · simp [N.val] at hv
       | _ => rw [ho] at hf; simp [Op.Jh] at hf
     | _ => rw [ho] at hf; simp [Op.Jh] at hf
   | _ => rw [ho] at hf; simp [Op.Jh] at hf
 · exact Si hT hE h (by simpa using hf) hv KO
end Go.TM
namespace Go.TM
open Go Go.RowKit
inductive OP where
 | int (k : IntKind)
 | bool
 | str
 | own (r : RT) (d : Md := .sh)
 | shr (r : RT)
 | mH (r : RT)
 | fn (g : Nat) (rs : RT)
inductive AP where
 | val (agg : Bool) (ps : List OP)
 | io (r : RT) (d : Md := .sh)
 | box (FX : Bool) (ps : List OP)
 | bW (ps : List OP)
def OP.ty : OP → Ty
 | .int k => .int k
 | .bool => .bool
 | .str => .str
 | .own r _ => .sl r
 | .shr r => .sl r
 | .mH r => .sl r
 | .fn _ rs => .sl rs
def OP.oD : OP → Bool
 | .own _ _ => true
 | _ => false
def my : List OP → RT → RT
 | [], t => t
 | p :: ps, t => .cons p.ty (my ps t)
def AP.rt : AP → RT → RT
 | .val _ ps, t => my ps t
 | .io r _, t => .cons (.sl r) t
 | .box _ ps, t => my ps t
 | .bW ps, t => my ps t
def az : List (Option AP) → RT
 | [] => .nil
 | none :: l => az l
 | some p :: l => p.rt (az l)
def OP.ov : (p : OP) → den p.ty → OV
 | .int k, n => .int k n
 | .bool, b => .bool b
 | .str, s => .str s
 | .own r d, xs => .own { r := r, own := true, xs := xs, md := d }
 | .shr r, xs => .shr r xs
 | .mH r, xs => .mH r xs
 | .fn g rs, xs => .fn g rs xs
def ed : (ps : List OP) → (t : RT) → aq (my ps t) → List OV × aq t
 | [], _, x => ([], x)
 | p :: ps, t, x => (p.ov x.1 :: (ed ps t x.2).1, (ed ps t x.2).2)
def AP.av : (p : AP) → (t : RT) → aq (p.rt t) → AV × aq t
 | .val agg ps, t, x => (.val agg (ed ps t x).1, (ed ps t x).2)
 | .io r d, _, x => (.io { r := r, own := true, xs := x.1, md := d }, x.2)
 | .box _ ps, t, x => (.box (ed ps t x).1, (ed ps t x).2)
 | .bW ps, t, x => (.bW (ed ps t x).1, (ed ps t x).2)
def cY : (l : List (Option AP)) → aq (az l) → List (Option AV)
 | [], _ => []
 | none :: l, x => none :: cY l x
 | some p :: l, x => some (p.av (az l) x).1 :: cY l (p.av (az l) x).2
def rN : (p : OP) → OV → Option (den p.ty)
 | .int k, .int l n => if k = l then some n else none
 | .bool, .bool b => some b
 | .str, .str s => some s
 | .own r d, .own A => bif A.md.is d then ck r A.xs else none
 | .own _ _, .eI => some ([] : List _)
 | .shr r, .shr _ xs => ck r xs
 | .shr _, .eI => some ([] : List _)
 | .mH r, .mH _ xs => ck r xs
 | .fn g rs, .fn f _ xs => bif Nat.beq f g then ck rs xs else none
 | _, _ => none
def dW : (ps : List OP) → (t : RT) → List OV → aq t → Option (aq (my ps t))
 | [], _, [], y => some y
 | p :: ps, t, o :: os, y => match rN p o, dW ps t os y with
   | some x, some z => some (x, z)
   | _, _ => none
 | _, _, _, _ => none
def Fj : (p : AP) → (t : RT) → AV → aq t → Option (aq (p.rt t))
 | .val true ps, t, .val true os, y => dW ps t os y
 | .val false ps, t, .val false os, y => dW ps t os y
 | .io r d, _, .io A, y => bif A.md.is d then (match ck r A.xs with
   | some xs => some (xs, y)
   | none => none) else none
 | .box _ ps, t, .box os, y => dW ps t os y
 | .bW ps, t, .bW os, y => dW ps t os y
 | _, _, _, _ => none
def fF : (l : List AP) → List AV → Option (aq (az (l.map some)))
 | [], [] => some ()
 | p :: l, a :: as => match fF l as with
   | some y => Fj p (az (l.map some)) a y
   | none => none
 | _, _ => none
def k8 (st : St) : (ps : List OP) → (t : RT) → List CV → aq t → Option (aq (my ps t) × List (Option Lb) × List (Nat × Nat))
 | [], _, [], y => some (y, [], [])
 | p :: ps, t, c :: cs, y => match gu st p.oD c, k8 st ps t cs y with
   | some (o, u, r), some (z, us, rs) => match rN p o with
     | some x => some ((x, z), u :: us, r ++ rs)
     | none => none
   | _, _ => none
 | _, _, _, _ => none
def BF (st : St) (k : Nat) : (p : AP) → (t : RT) → V → aq t → Option (aq (p.rt t) × List Lb × List (Nat × Nat))
 | .val agg ps, t, v, y =>
   match agg, v with
   | true, .agg cs => (k8 st ps t cs y).map fun q => (q.1, cq q.2.1, q.2.2)
   | false, .one c => (k8 st ps t [c] y).map fun q => (q.1, cq q.2.1, q.2.2)
   | _, _ => none
 | .io r d, _, v, y =>
   match v with
   | .one (.ref a j g .full) => bif Nat.beq a k && (Nat.beq j 0 && Nat.beq g 1) then ((bl st a j g).bind fun A => bif A.own && A.md.is d then (ck r A.xs).map fun xs => ((xs, y), [.sp a j], []) else none) else none
   | _ => none
 | .box FX ps, t, v, y =>
   match v with
   | .one (.ptr b g off) => bif Nat.beq off 0 && (!FX || (Nat.beq b k && Nat.beq g 1)) then ((eR st b g).bind fun cs => (k8 st ps t cs y).map fun q => (q.1, .box b :: cq q.2.1, q.2.2)) else none
   | _ => none
 | .bW _, _, _, _ => none
def nJ (st : St) : (k : Nat) → (l : List (Option AP)) → Option (aq (az l) × List Lb × List (Nat × Nat))
 | _, [] => some ((), [], [])
 | k, none :: l => nJ st (k + 1) l
 | k, some p :: l => match nJ st (k + 1) l with
   | some (y, us, rs) => match BF st k p (az l) (da st k) y with
     | some (x, u, r) => some (x, u ++ us, r ++ rs)
     | none => none
   | none => none
def Sl.blank : Sl := { v := .one .bad, box := .none, bg := 1, aP := [], ag := 1 }
def dO (k : Nat) : Option AV → Sl
 | none => Sl.blank
 | some (.bW os) => { v := .agg (bp k 1 0 os), box := none, bg := 1, aP := bw os, ag := 1 }
 | some (.val true os) => { v := .agg (bp k 1 0 os), box := none, bg := 1, aP := bw os, ag := 1 }
 | some (.val false os) => { v := match bp k 1 0 os with | [c] => .one c | _ => .one .bad, box := none, bg := 1, aP := bw os, ag := 1 }
 | some (.io A) => { v := .one (.ref k 0 1 .full), box := none, bg := 1, aP := [some A], ag := 1 }
 | some (.box os) => { v := .one (.ptr k 1 0), box := some (bp k 1 0 os), bg := 1, aP := bw os, ag := 1 }
def oF : (k : Nat) → List (Option AV) → St
 | _, [] => []
 | k, a :: l => dO k a :: oF (k + 1) l
theorem Fk : (l : List (Option AV)) → (k i : Nat) → nth (oF k l) i = (l[i]?).map (dO (k + i))
 | [], _, _ => by simp [oF]
 | a :: l, k, 0 => by simp [oF, nth]
 | a :: l, k, i + 1 => by
   simp only [oF, nth, List.getElem?_cons_succ]; rw [Fk l (k + 1) i, show k + 1 + i = k + (i + 1) by omega]
theorem HH {c : Cz} {w : World} {f : Nat → Lb} {j : Nat} : (p : OP) → (o : OV) → (x : den p.ty) → rN p o = some x → {os zw : List OV} → {vs : List Value} → (∀ l, bT c w f (j + 1) os l → bT c w f (j + 1) zw l) → bT c w f j (o :: os) vs → bT c w f j (p.ov x :: zw) vs
 | .int k, .int l n, x, hx, os, zw, vs, s4, h => by
   have hx : (if k = l then some (n : Int) else none) = some (x : Int) := hx
   by_cases e : k = l
   · rw [if_pos e] at hx; have hx : n = x := Option.some.inj hx; obtain ⟨l', h1, h2⟩ := h; exact ⟨l', by rw [h1, e, hx], s4 _ h2⟩
   · rw [if_neg e] at hx
     cases hx
 | .bool, .bool b, x, hx, os, zw, vs, s4, h => by
   have hx : b = x := Option.some.inj hx; subst hx; obtain ⟨l', h1, h2⟩ := h; exact ⟨l', h1, s4 _ h2⟩
 | .str, .str b, x, hx, os, zw, vs, s4, h => by
   have hx : b = x := Option.some.inj hx; subst hx; obtain ⟨l', h1, h2⟩ := h; exact ⟨l', h1, s4 _ h2⟩
 | .own r d, .own A, x, hx, os, zw, vs, s4, h => by
   obtain ⟨v, l', h1, ⟨lc, h2⟩, h3⟩ := h; have hx : (bif A.md.is d then ck r A.xs else none) = some x := hx; obtain ⟨hd, hx⟩ := aH hx; have hd := Md.oG.1 hd; obtain ⟨e, rfl⟩ := bA hx; obtain ⟨r0, Ja, qj, Se⟩ := A; simp only at e hd; subst e hd; have ho : Ja = true := h2.2.2.1; subst ho; exact ⟨v, l', h1, ⟨lc, h2⟩, s4 _ h3⟩
 | .own r _, .eI, x, hx, os, zw, vs, s4, h => by
   have hx : ([] : List (aq r)) = x := Option.some.inj hx; subst hx; obtain ⟨l', h1, h2⟩ := h; exact ⟨_, l', h1, ⟨.nil, rfl, ⟨rfl, rfl⟩, rfl, rfl⟩, s4 _ h2⟩
 | .shr r, .shr q xs, x, hx, os, zw, vs, s4, h => by
   obtain ⟨v, l', h1, h2, h3⟩ := h; have hx : ck r xs = some x := hx; obtain ⟨e, rfl⟩ := bA hx; subst e; exact ⟨v, l', h1, h2, s4 _ h3⟩
 | .shr r, .eI, x, hx, os, zw, vs, s4, h => by
   have hx : ([] : List (aq r)) = x := Option.some.inj hx; subst hx; obtain ⟨l', h1, h2⟩ := h; exact ⟨_, l', h1, (oE _ _ _ _ _).2 (.inl ⟨rfl, rfl⟩), s4 _ h2⟩
 | .mH r, .mH q xs, x, hx, os, zw, vs, s4, h => by
   obtain ⟨v, l', h1, h2, h3⟩ := h; have hx : ck r xs = some x := hx; obtain ⟨e, rfl⟩ := bA hx; subst e; exact ⟨v, l', h1, h2, s4 _ h3⟩
 | .fn g r, .fn f q xs, x, hx, os, zw, vs, s4, h => by
   obtain ⟨v, l', h1, h2, h3⟩ := h; have hx : (bif Nat.beq f g then ck r xs else none) = some x := hx; obtain ⟨hfg, hx⟩ := aH hx; have hfg := Nat.eq_of_beq_eq_true hfg; subst hfg; obtain ⟨e, rfl⟩ := bA hx; subst e; exact ⟨v, l', h1, h2, s4 _ h3⟩
 | .int _, .bool _, _, hx, _, _, _, _, _ => by cases hx
 | .int _, .str _, _, hx, _, _, _, _, _ => by cases hx
 | .int _, .own _, _, hx, _, _, _, _, _ => by cases hx
 | .int _, .shr _ _, _, hx, _, _, _, _, _ => by cases hx
 | .int _, .eI, _, hx, _, _, _, _, _ => by cases hx
 | .int _, .mH _ _, _, hx, _, _, _, _, _ => by cases hx
 | .int _, .fn _ _ _, _, hx, _, _, _, _, _ => by cases hx
 | .bool, .int _ _, _, hx, _, _, _, _, _ => by cases hx
 | .bool, .str _, _, hx, _, _, _, _, _ => by cases hx
 | .bool, .own _, _, hx, _, _, _, _, _ => by cases hx
 | .bool, .shr _ _, _, hx, _, _, _, _, _ => by cases hx
 | .bool, .eI, _, hx, _, _, _, _, _ => by cases hx
 | .bool, .mH _ _, _, hx, _, _, _, _, _ => by cases hx
 | .bool, .fn _ _ _, _, hx, _, _, _, _, _ => by cases hx
 | .str, .int _ _, _, hx, _, _, _, _, _ => by cases hx
 | .str, .bool _, _, hx, _, _, _, _, _ => by cases hx
 | .str, .own _, _, hx, _, _, _, _, _ => by cases hx
 | .str, .shr _ _, _, hx, _, _, _, _, _ => by cases hx
 | .str, .eI, _, hx, _, _, _, _, _ => by cases hx
 | .str, .mH _ _, _, hx, _, _, _, _, _ => by cases hx
 | .str, .fn _ _ _, _, hx, _, _, _, _, _ => by cases hx
 | .own _ _, .int _ _, _, hx, _, _, _, _, _ => by cases hx
 | .own _ _, .bool _, _, hx, _, _, _, _, _ => by cases hx
 | .own _ _, .str _, _, hx, _, _, _, _, _ => by cases hx
 | .own _ _, .shr _ _, _, hx, _, _, _, _, _ => by cases hx
 | .own _ _, .mH _ _, _, hx, _, _, _, _, _ => by cases hx
 | .own _ _, .fn _ _ _, _, hx, _, _, _, _, _ => by cases hx
 | .shr _, .int _ _, _, hx, _, _, _, _, _ => by cases hx
 | .shr _, .bool _, _, hx, _, _, _, _, _ => by cases hx
 | .shr _, .str _, _, hx, _, _, _, _, _ => by cases hx
 | .shr _, .own _, _, hx, _, _, _, _, _ => by cases hx
 | .shr _, .mH _ _, _, hx, _, _, _, _, _ => by cases hx
 | .shr _, .fn _ _ _, _, hx, _, _, _, _, _ => by cases hx
 | .mH _, .int _ _, _, hx, _, _, _, _, _ => by cases hx
 | .mH _, .bool _, _, hx, _, _, _, _, _ => by cases hx
 | .mH _, .str _, _, hx, _, _, _, _, _ => by cases hx
 | .mH _, .own _, _, hx, _, _, _, _, _ => by cases hx
 | .mH _, .shr _ _, _, hx, _, _, _, _, _ => by cases hx
 | .mH _, .eI, _, hx, _, _, _, _, _ => by cases hx
 | .mH _, .fn _ _ _, _, hx, _, _, _, _, _ => by cases hx
 | .fn _ _, .int _ _, _, hx, _, _, _, _, _ => by cases hx
 | .fn _ _, .bool _, _, hx, _, _, _, _, _ => by cases hx
 | .fn _ _, .str _, _, hx, _, _, _, _, _ => by cases hx
 | .fn _ _, .own _, _, hx, _, _, _, _, _ => by cases hx
 | .fn _ _, .shr _ _, _, hx, _, _, _, _, _ => by cases hx
 | .fn _ _, .eI, _, hx, _, _, _, _, _ => by cases hx
 | .fn _ _, .mH _ _, _, hx, _, _, _, _, _ => by cases hx
theorem tu {c : Cz} {w : World} {f : Nat → Lb} : (ps : List OP) → (t : RT) → (os : List OV) → (y : aq t) → {x : aq (my ps t)} → dW ps t os y = some x → (ed ps t x).2 = y ∧ ∀ (j : Nat) (vs : List Value), bT c w f j os vs → bT c w f j (ed ps t x).1 vs
 | [], t, [], y, x, h => by
   have h : y = x := Option.some.inj h; subst h; exact ⟨rfl, fun _ _ h => h⟩
 | [], _, _ :: _, _, _, h => by simp [dW] at h
 | _ :: _, _, [], _, _, h => by simp [dW] at h
 | p :: ps, t, o :: os, y, x, h => by
   unfold dW at h
   cases h1 : rN p o with
   | none => simp [h1] at h
   | some a =>
     cases h2 : dW ps t os y with
     | none => simp [h1, h2] at h
     | some z =>
       simp only [h1, h2] at h; have h : (a, z) = x := Option.some.inj h; subst h; obtain ⟨g1, g2⟩ := tu (c := c) (w := w) (f := f) ps t os y h2; exact ⟨g1, fun j vs hh => HH p o a h1 (fun l => g2 (j + 1) l) hh⟩
theorem bT.NZ {c : Cz} {w : World} {f : Nat → Lb} : (os : List OV) → (j : Nat) → (vs : List Value) → bT c w f j os vs → vs.length = os.length ∧ ∀ (k : Nat) (o : OV) (u : Value), os[k]? = some o → vs[k]? = some u → bT c w f (j + k) [o] [u]
 | [], j, vs, h => by
   subst h; exact ⟨rfl, fun k o u h => by simp at h⟩
 | o :: os, j, vs, h => by
   obtain ⟨v, l, rfl, h1, h2⟩ : ∃ v l, vs = v :: l ∧ bT c w f j [o] [v] ∧ bT c w f (j + 1) os l := by
     cases o with
     | int k n => obtain ⟨l, h1, h2⟩ := h; exact ⟨_, l, h1, ⟨[], rfl, rfl⟩, h2⟩
     | bool b => obtain ⟨l, h1, h2⟩ := h; exact ⟨_, l, h1, ⟨[], rfl, rfl⟩, h2⟩
     | str b => obtain ⟨l, h1, h2⟩ := h; exact ⟨_, l, h1, ⟨[], rfl, rfl⟩, h2⟩
     | eI => obtain ⟨l, h1, h2⟩ := h; exact ⟨_, l, h1, ⟨[], rfl, rfl⟩, h2⟩
     | shr r xs => obtain ⟨v, l, h1, h2, h3⟩ := h; exact ⟨v, l, h1, ⟨v, [], rfl, h2, rfl⟩, h3⟩
     | mH r xs => obtain ⟨v, l, h1, h2, h3⟩ := h; exact ⟨v, l, h1, ⟨v, [], rfl, h2, rfl⟩, h3⟩
     | fn g r xs => obtain ⟨v, l, h1, h2, h3⟩ := h; exact ⟨v, l, h1, ⟨v, [], rfl, h2, rfl⟩, h3⟩
     | own A => obtain ⟨v, l, h1, h2, h3⟩ := h; exact ⟨v, l, h1, ⟨v, [], rfl, h2, rfl⟩, h3⟩
   obtain ⟨g1, g2⟩ := bT.NZ os (j + 1) l h2; refine ⟨by simp [g1], fun k o' u ho hu => ?_⟩
   cases k with
   | zero =>
     simp only [List.getElem?_cons_zero, Option.some.injEq] at ho hu; subst ho hu; exact h1
   | succ k =>
     have := g2 k o' u (by simpa using ho) (by simpa using hu)
     rwa [show j + 1 + k = j + (k + 1) by omega] at this
theorem Fl : (ps : List OP) → (t : RT) → (os : List OV) → (y : aq t) → {x : aq (my ps t)} → dW ps t os y = some x → ∀ (k : Nat) (o' : OV), (ed ps t x).1[k]? = some o' → ∃ (p : OP) (o : OV) (z : den p.ty), os[k]? = some o ∧ rN p o = some z ∧ o' = p.ov z
 | [], t, [], y, x, h => by
   intro k o' hk; simp [ed] at hk
 | [], _, _ :: _, _, _, h => by simp [dW] at h
 | _ :: _, _, [], _, _, h => by simp [dW] at h
 | p :: ps, t, o :: os, y, x, h => by
   unfold dW at h
   cases h1 : rN p o with
   | none => simp [h1] at h
   | some a =>
     cases h2 : dW ps t os y with
     | none => simp [h1, h2] at h
     | some z =>
       simp only [h1, h2] at h; have h : (a, z) = x := Option.some.inj h; subst h; intro k o' hk
       cases k with
       | zero =>
         have hk : some (p.ov a) = some o' := hk; simp only [Option.some.injEq] at hk; exact ⟨p, o, a, rfl, h1, hk.symm⟩
       | succ k =>
         have hk : (ed ps t z).1[k]? = some o' := hk; obtain ⟨p', o1, z', q1, q2, q3⟩ := Fl ps t os y h2 k o' hk; exact ⟨p', o1, z', by simpa using q1, q2, q3⟩
theorem LV {p : OP} {o : OV} {z : den p.ty} (h : rN p o = some z) {A : iN} (he : p.ov z = .own A) : (∃ B, o = .own B ∧ A.r = B.r ∧ A.own = true ∧ A.xs.length = B.xs.length ∧ (B.own = true → A = B)) ∨ (o = .eI ∧ ∃ r d, A = { r := r, own := true, xs := ([] : List (aq r)), md := d }) := by
 cases p with
 | own r d =>
   injection he with he; subst he
   cases o with
   | own B =>
     have h : (bif B.md.is d then ck r B.xs else none) = some z := h; obtain ⟨hd, h⟩ := aH h; have hd := Md.oG.1 hd; obtain ⟨e, rfl⟩ := bA h; obtain ⟨r0, Ja, qj, Se⟩ := B; simp only at e hd; subst e hd; exact .inl ⟨_, rfl, rfl, rfl, rfl, fun ho => by simp only at ho; subst ho; rfl⟩
   | eI =>
     have h : ([] : List (aq r)) = z := Option.some.inj h; subst h; exact .inr ⟨rfl, r, d, rfl⟩
   | _ => cases h
 | int _ => cases he
 | bool => cases he
 | str => cases he
 | shr _ => cases he
 | mH _ => cases he
 | fn _ _ => cases he
theorem HI {p : OP} (z : den p.ty) : p.ov z ≠ .eI := by
 cases p <;> (intro h; cases h)
theorem HJ {c : Cz} {w : World} {i : Nat} {lc : Nat → Loc} {p : AP} {t : RT} {av : AV} {y : aq t} {x : aq (p.rt t)} (h : Fj p t av y = some x) : (p.av t x).2 = y ∧ ∀ v, sJ c w i lc av v → sJ c w i lc (p.av t x).1 v := by
 cases p with
 | val agg ps =>
   cases agg with
   | true =>
     cases av with
     | val PT os =>
       cases PT with
       | true =>
         have h : dW ps t os y = some x := h; obtain ⟨g1, g2⟩ := tu (c := c) (w := w) (f := .cA i) ps t os y h; exact ⟨g1, fun v ⟨vs, hv, hl⟩ => ⟨vs, hv, g2 0 _ hl⟩⟩
       | false => cases h
     | _ => cases h
   | false =>
     cases av with
     | val PT os =>
       cases PT with
       | false =>
         have h : dW ps t os y = some x := h; obtain ⟨g1, g2⟩ := tu (c := c) (w := w) (f := .cA i) ps t os y h; exact ⟨g1, fun v hl => g2 0 _ hl⟩
       | true => cases h
     | _ => cases h
 | io r d =>
   cases av with
   | io A =>
     have h : (bif A.md.is d then (match ck r A.xs with | some xs => some ((xs, y) : aq (.cons (.sl r) t)) | none => none) else none) = some x := h; obtain ⟨hd, h⟩ := aH h; have hd := Md.oG.1 hd
     cases hc : ck r A.xs with
     | none => rw [hc] at h; cases h
     | some xs =>
       rw [hc] at h
       cases h
       refine ⟨rfl, fun v hl => ?_⟩; obtain ⟨e, rfl⟩ := bA hc; obtain ⟨r0, Ja, qj, Se⟩ := A; simp only at e hd; subst e hd; have ho : Ja = true := hl.2.2.1; subst ho; exact hl
   | _ => cases h
 | box FX ps =>
   cases av with
   | box os =>
     have h : dW ps t os y = some x := h; obtain ⟨g1, g2⟩ := tu (c := c) (w := w) (f := .cA i) ps t os y h; exact ⟨g1, fun v ⟨oK, vs, ty, q1, q2, q3, q4⟩ => ⟨oK, vs, ty, q1, q2, q3, g2 0 _ q4⟩⟩
   | _ => cases h
 | bW ps =>
   cases av with
   | bW os =>
     have h : dW ps t os y = some x := h; obtain ⟨g1, g2⟩ := tu (c := c) (w := w) (f := .cA i) ps t os y h; refine ⟨g1, fun v ⟨vs, q1, q2, q3⟩ => ⟨vs, q1, g2 0 _ q2, fun j o u ho hu => ?_⟩⟩; obtain ⟨p, o0, z, k1, k2, rfl⟩ := Fl ps t os y h j o ho; have h0 := q3 j o0 u k1 hu; have hL := (bT.NZ os 0 _ q2).2 j o0 u k1 hu; unfold NF at h0 ⊢
     cases he : p.ov z with
     | eI => exact absurd he (HI z)
     | own A =>
       rcases LV k2 he with ⟨B, rfl, e1, e2, e3, e4⟩ | ⟨rfl, r, d, rfl⟩
       · have h0 : OwnAt c w (.cA i j) (lc j) B u := h0; have := e4 h0.2.2.1; subst this; exact h0
       · have h0 : lc j = .nil := h0; obtain ⟨l, hl, _⟩ := hL; injection hl with hl _; subst hl; show OwnAt c w (.cA i j) (lc j) _ _; rw [h0]; exact ⟨rfl, ⟨rfl, rfl⟩, rfl, rfl⟩
     | _ => trivial
   | _ => cases h
end Go.TM
namespace Go.TM
open Go Go.RowKit
theorem wz {w0 : World} {mu : Mu} {c : Cz} {st : St} {a : Act} {w : World} (h : Rel w0 mu c st a w) {ρ : Lb → Option Lb} {f : Nat → Lb} : (ps : List OP) → (t : RT) → (cs : List CV) → (y : aq t) → (vs : List Value) → (j : Nat) → fX c st w cs vs → {x : aq (my ps t)} → {u : List (Option Lb)} → {r : List (Nat × Nat)} →
   k8 st ps t cs y = some (x, u, r) → (ed ps t x).2 = y ∧ (∀ l ∈ cq u, l.real = true) ∧ ((∀ k l, nth u k = some (some l) → ρ l = some (f (j + k))) → (∀ p ∈ r, ρ (.sp p.1 p.2) = none) → bT (c.map ρ) w f j (ed ps t x).1 vs)
 | [], t, [], y, vs, j, hl, x, u, r, he => by
   have he : some (y, ([] : List (Option Lb)), ([] : List (Nat × Nat))) = some (x, u, r) := he; injection he with he; injection he with e1 e2; injection e2 with e2 e3; subst e1 e2 e3; have := hl.1; simp at this; exact ⟨rfl, by simp [cq], fun _ _ => List.length_eq_zero_iff.1 this.symm⟩
 | [], t, _ :: _, y, vs, j, hl, x, u, r, he => by simp [k8] at he
 | _ :: _, t, [], y, vs, j, hl, x, u, r, he => by simp [k8] at he
 | p :: ps, t, cx :: cs, y, vs, j, hl, x, u, r, he => by
   obtain ⟨v, l, rfl, hx, xG⟩ := hl.Rk; unfold k8 at he
   cases hc : gu st p.oD cx with
   | none => simp [hc] at he
   | some q1 =>
     obtain ⟨o, u1, r1⟩ := q1
     cases hq : k8 st ps t cs y with
     | none => simp [hc, hq] at he
     | some q2 =>
       obtain ⟨z, us, rs⟩ := q2; simp only [hc, hq] at he
       cases ho : rN p o with
       | none => simp [ho] at he
       | some a1 =>
         simp only [ho] at he; injection he with he; injection he with e1 e2; injection e2 with e2 e3; subst e1 e2 e3; obtain ⟨g1, g2, g3⟩ := wz h (ρ := ρ) (f := f) ps t cs y l (j + 1) xG hq; refine ⟨g1, fun l' hm => ?_, fun hu hr => ?_⟩
         · rw [hZ] at hm; rcases List.mem_cons.1 hm with hm | hm
           · obtain ⟨s, k, rfl⟩ := Fc hc l' hm.symm; rfl
           · exact g2 l' (hZ.2 hm)
         · have fL := g3 (fun k' l' hk => by
             have := hu (k' + 1) l' hk
             rwa [show j + (k' + 1) = j + 1 + k' by omega] at this) (fun p hp => hr p (List.mem_append_right _ hp))
           have h1 := KJ h (f := f) (j := j) hx hc (fun l' xG => hu 0 l' (by rw [xG]; rfl)) (fun p hp => hr p (List.mem_append_left _ hp)) fL; exact HH p o a1 ho (fun _ h => h) h1
def AR (c : Cz) (w : World) (lc : Nat → Nat → Loc) (a : Act) (k : Nat) (l : List (Option AV)) : Prop :=
 ∀ i av, l[i]? = some (some av) → sJ c w (k + i) (lc (k + i)) av (a.eval (.tmp (k + i)))
theorem zH {w0 : World} {mu : Mu} {c : Cz} {st : St} {a : Act} {w : World} (h : Rel w0 mu c st a w) (k : Nat) {p : AP} {t : RT} {V : V} {y : aq t} {v : Value} (hV : fY c st w V v) {x : aq (p.rt t)} {u : List Lb} {r : List (Nat × Nat)} (he : BF st k p t V y = some (x, u, r)) :
   (p.av t x).2 = y ∧ (∀ l ∈ u, l.real = true) ∧ ∃ tb : List (Lb × Lb), tb.map (·.1) = u ∧ (∀ p ∈ tb, p.2.kL = true) ∧ ∀ ρ : Lb → Option Lb, (∀ p ∈ tb, ρ p.1 = some p.2) → (∀ p ∈ r, ρ (.sp p.1 p.2) = none) → sJ (c.map ρ) w k (c.lc k) (p.av t x).1 v := by
 have vals : ∀ (ps : List OP) (cs : List CV) (x : aq (my ps t)) (us : List (Option Lb)) (rs : List (Nat × Nat)) (vs : List Value), fX c st w cs vs → k8 st ps t cs y = some (x, us, rs) → (ed ps t x).2 = y ∧ (∀ l ∈ cq us, l.real = true) ∧
     ∀ ρ : Lb → Option Lb, (∀ p ∈ zA (.cA k) 0 us, ρ p.1 = some p.2) → (∀ p ∈ rs, ρ (.sp p.1 p.2) = none) → bT (c.map ρ) w (.cA k) 0 (ed ps t x).1 vs := by
   intro ps cs x us rs vs hl hq; refine ⟨(wz h (ρ := fun _ => none) (f := .cA k) ps t cs y vs 0 hl hq).1, (wz h (ρ := fun _ => none) (f := .cA k) ps t cs y vs 0 hl hq).2.1, fun ρ hp hr => (wz h (ρ := ρ) (f := .cA k) ps t cs y vs 0 hl hq).2.2 (fun k' l hk => ?_) hr⟩; have := hp _ (wo (.cA k) 0 us k' l hk); simpa using this
 cases p with
 | val agg ps =>
   cases agg with
   | true =>
     cases V with
     | agg cs =>
       have he : (k8 st ps t cs y).map (fun q => (q.1, cq q.2.1, q.2.2)) = some (x, u, r) := he
       cases hq : k8 st ps t cs y with
       | none => rw [hq] at he; cases he
       | some q =>
         obtain ⟨z, us, rs⟩ := q; rw [hq] at he; injection he with he; injection he with e1 e2; injection e2 with e2 e3; subst e1 e2 e3; obtain ⟨vs, rfl, hl⟩ := hV; obtain ⟨g1, g2, g3⟩ := vals _ _ _ _ _ _ hl hq; exact ⟨g1, g2, j6 k (.val true []) [] us, mV _ _ _ _, mW _ _ _ _, fun ρ hp hr => ⟨vs, rfl, g3 ρ (fun p j3 => hp p (by simpa [j6] using j3)) hr⟩⟩
     | one _ => cases he
     | ot _ => cases he
   | false =>
     cases V with
     | one cx =>
       have he : (k8 st ps t [cx] y).map (fun q => (q.1, cq q.2.1, q.2.2)) = some (x, u, r) := he
       cases hq : k8 st ps t [cx] y with
       | none => rw [hq] at he; cases he
       | some q =>
         obtain ⟨z, us, rs⟩ := q; rw [hq] at he; injection he with he; injection he with e1 e2; injection e2 with e2 e3; subst e1 e2 e3; obtain ⟨g1, g2, g3⟩ := vals _ _ _ _ _ [v] ⟨rfl, fun k y z hy hz => by
           cases k with
           | zero => simp at hy hz; subst hy hz; exact hV
           | succ k => simp at hy⟩ hq
         exact ⟨g1, g2, j6 k (.val true []) [] us, mV _ _ _ _, mW _ _ _ _, fun ρ hp hr => g3 ρ (fun p j3 => hp p (by simpa [j6] using j3)) hr⟩
     | agg _ => cases he
     | ot _ => cases he
 | io rr d =>
   cases V with
   | one cx =>
     cases cx with
     | ref s j g vw =>
       cases vw with
       | full =>
         have he : (bif Nat.beq s k && (Nat.beq j 0 && Nat.beq g 1) then ((bl st s j g).bind fun A => bif A.own && A.md.is d then (ck rr A.xs).map fun xs => ((xs, y), [Lb.sp s j], ([] : List (Nat × Nat))) else none) else none) = some (x, u, r) := he; obtain ⟨h1, xr⟩ := aH he; clear he; rw [Bool.and_eq_true, Bool.and_eq_true] at h1; have e1 := Nat.eq_of_beq_eq_true h1.1; have e2 := Nat.eq_of_beq_eq_true h1.2.1; subst e1 e2
         cases hA : bl st s 0 g with
         | none => rw [hA] at xr; cases xr
         | some A =>
           rw [hA] at xr; obtain ⟨ho, Wa⟩ := aH xr; rw [Bool.and_eq_true] at ho; have hd := Md.oG.1 ho.2; have ho := ho.1
           cases hc : ck rr A.xs with
           | none => rw [hc] at Wa; cases Wa
           | some xs =>
             rw [hc] at Wa; injection Wa with Wa; injection Wa with e1 e2; injection e2 with e2 e3; subst e1 e2 e3; refine ⟨rfl, by simp [Lb.real], [(.sp s 0, .cA s 0)], rfl, by simp [Lb.kL], fun ρ hp _ => ?_⟩; have ha := xe h hA; have hs := hV.2.2 A hA; have hρ : ρ (.sp s 0) = some (.cA s 0) := hp (.sp s 0, .cA s 0) (by simp); obtain ⟨e, rfl⟩ := bA hc; obtain ⟨r0, Ja, qj, Se⟩ := A; simp only at e hd; subst e hd; have ho : Ja = true := by first | exact ho | exact ho.1
             subst ho; refine ⟨hV.1, hs, rfl, ?_⟩; unfold cz at ha
             cases jh : c.lc s 0 with
             | nil => rw [jh] at ha; exact ha
             | «at» b off cap =>
               rw [jh] at ha; obtain ⟨h0, h2, h3, h4⟩ := ha; exact ⟨(Cz.kR h0).trans hρ, h2, h3, h4.map hρ⟩
       | «from» _ => cases he
       | sub _ _ => cases he
     | _ => cases he
   | agg _ => cases he
   | ot _ => cases he
 | box FX ps =>
   cases V with
   | one cx =>
     cases cx with
     | ptr b g off =>
       have he : (bif Nat.beq off 0 && (!FX || (Nat.beq b k && Nat.beq g 1)) then ((eR st b g).bind fun cs => (k8 st ps t cs y).map fun q => (q.1, Lb.box b :: cq q.2.1, q.2.2)) else none) = some (x, u, r) := he; obtain ⟨h1, xr⟩ := aH he; clear he; rw [Bool.and_eq_true] at h1; have e1 := Nat.eq_of_beq_eq_true h1.1; subst e1
       cases hb : eR st b g with
       | none => rw [hb] at xr; cases xr
       | some cs =>
         rw [hb] at xr; simp only [Option.bind_some] at xr
         cases hq : k8 st ps t cs y with
         | none => rw [hq] at xr; cases xr
         | some q =>
           obtain ⟨z, us, rs⟩ := q; rw [hq] at xr; injection xr with xr; injection xr with e1 e2; injection e2 with e2 e3; subst e1 e2 e3; obtain ⟨sl, k1, k2, k3⟩ := iF hb; obtain ⟨h1, vs, ty, h2, h3⟩ := h.boxes b sl cs k1 k3; obtain ⟨g1, g2, g3⟩ := vals _ _ _ _ _ _ h3 hq; refine ⟨g1, fun l hl => ?_, j6 k (.box []) [.box b] us, by rw [mV]; rfl, mW _ _ _ _, fun ρ hp hr => ⟨c.bx b, vs, ty, hV.2.2 cs hb, ?_, h2, g3 ρ (fun p j3 => hp p (List.mem_append_right _ j3)) hr⟩⟩
           · rcases List.mem_cons.1 hl with rfl | hl
             · rfl
             · exact g2 l hl
           · exact (Cz.kR h1).trans (hp (.box b, .tg k) (by simp [j6]))
     | _ => cases he
   | agg _ => cases he
   | ot _ => cases he
 | bW ps => cases he
theorem wA {w0 : World} {mu : Mu} {c : Cz} {st : St} {a : Act} {w : World} (h : Rel w0 mu c st a w) : (l : List (Option AP)) → (k : Nat) → {x : aq (az l)} → {u : List Lb} → {r : List (Nat × Nat)} → nJ st k l = some (x, u, r) →
   (∀ l ∈ u, l.real = true) ∧ ∃ tb : List (Lb × Lb), tb.map (·.1) = u ∧ (∀ p ∈ tb, p.2.kL = true) ∧ ∀ ρ : Lb → Option Lb, (∀ p ∈ tb, ρ p.1 = some p.2) → (∀ p ∈ r, ρ (.sp p.1 p.2) = none) → AR (c.map ρ) w c.lc a k (cY l x)
 | [], k, x, u, r, he => by
   have he : some ((), ([] : List Lb), ([] : List (Nat × Nat))) = some (x, u, r) := he; injection he with he; injection he with _ e2; injection e2 with e2 e3; subst e2 e3; exact ⟨by simp, [], rfl, by simp, fun ρ _ _ i av hi => by simp [cY] at hi⟩
 | none :: l, k, x, u, r, he => by
   obtain ⟨g1, tb, g2, g3, g4⟩ := wA h l (k + 1) he; refine ⟨g1, tb, g2, g3, fun ρ hp hr i av hi => ?_⟩
   cases i with
   | zero => simp [cY] at hi
   | succ i =>
     have := g4 ρ hp hr i av (by simpa [cY] using hi)
     rwa [show k + 1 + i = k + (i + 1) by omega] at this
 | some p :: l, k, x, u, r, he => by
   unfold nJ at he
   cases h1 : nJ st (k + 1) l with
   | none => simp [h1] at he
   | some q1 =>
     obtain ⟨y, us, rs⟩ := q1; simp only [h1] at he
     cases h2 : BF st k p (az l) (da st k) y with
     | none => simp [h2] at he
     | some q2 =>
       obtain ⟨x1, u1, r1⟩ := q2; simp only [h2] at he; injection he with he; injection he with e1 e2; injection e2 with e2 e3; subst e1 e2 e3; obtain ⟨g1, tb, g2, g3, g4⟩ := wA h l (k + 1) h1; obtain ⟨a1, a2, ta, a3, a4, a5⟩ := zH h k (h.gJ k) h2; refine ⟨fun l' hl => ?_, ta ++ tb, by simp [a3, g2], fun p hp => ?_, fun ρ hp hr i av hi => ?_⟩
       · rcases List.mem_append.1 hl with hl | hl
         · exact a2 l' hl
         · exact g1 l' hl
       · rcases List.mem_append.1 hp with hp | hp
         · exact a4 p hp
         · exact g3 p hp
       · cases i with
         | zero =>
           have hi : some (some (p.av (az l) x1).1) = some (some av) := hi; simp only [Option.some.injEq] at hi; subst hi; exact a5 ρ (fun p j3 => hp p (List.mem_append_left _ j3)) (fun p j3 => hr p (List.mem_append_left _ j3))
         | succ i =>
           have hi : (cY l (p.av (az l) x1).2)[i]? = some (some av) := hi; rw [a1] at hi; have := g4 ρ (fun p j3 => hp p (List.mem_append_right _ j3)) (fun p j3 => hr p (List.mem_append_right _ j3)) i av hi
           rwa [show k + 1 + i = k + (i + 1) by omega] at this
end Go.TM
namespace Go.TM
open Go Go.RowKit
def N0 (L : List (Option AV)) (lc : Nat → Nat → Loc) (a : Act) : Lk → Prop
 | .arr i j g W n l => g = 1 ∧ i < L.length ∧ ∀ av, L[i]? = some (some av) → (∃ A, av = .io A ∧ (j = 0 → A.r.width = W ∧ A.xs.length = n ∧ lc i 0 = l)) ∨ ∃ os, av = .bW os ∧ ∀ A, os[j]? = some (.own A) → A.r.width = W ∧ A.xs.length = n ∧ lc i j = l
 | .box i g oK => g = 1 ∧ i < L.length ∧ ∀ os, L[i]? = some (some (.box os)) → a.eval (.tmp i) = .pointer (some ⟨oK, 0, none⟩)
def N1 : Lb → Lb
 | .cA i j => .sp i j
 | .tg i => .box i
 | l => l
structure N2 (c : Cz) (w : World) (k : Nat) (av : Option AV) (u : Value) (lio : Nat → Loc) (oK : Nat) (lcs : Nat → Loc) : Prop where
 arr : ∀ j A, nth (dO k av).aP j = some (some A) → ∃ v, OwnAt c w (.cA k j) (lcs j) A v
 reg : ∀ (c2 : Cz) (il : St), (∀ b, c.ok b → c2.ok b) → c2.bx k = oK → c2.lc k = lcs → nth il k = some (dO k av) → fY c2 il w (dO k av).v u
 box : ∀ cs, (dO k av).box = some cs → u = .pointer (some ⟨oK, 0, none⟩) ∧ c.own oK = some (.tg k) ∧ ∃ vs ty, w.heap[oK]? = some (.cells vs ty (0, 0)) ∧
   ∀ (c2 : Cz) (il : St), (∀ b, c.ok b → c2.ok b) → c2.lc k = lcs → nth il k = some (dO k av) → fX c2 il w cs vs.toList
 io : ∀ A, av = some (.io A) → lcs 0 = lio 0
 bW : ∀ os, av = some (.bW os) → lcs = lio
theorem rn {st : St} {k j : Nat} {av : Option AV} {A : iN} (h : nth st k = some (dO k av)) (hA : bl st k j 1 = some A) : nth (dO k av).aP j = some (some A) := by
 obtain ⟨sl, h1, _, h3⟩ := bN hA; rw [h] at h1; cases h1; exact h3
theorem rp {st : St} {k : Nat} {av : Option AV} (h : nth st k = some (dO k av)) : ev st k = 1 := by
 unfold ev; rw [h]
 cases av with
 | none => rfl
 | some av => cases av with
   | val agg os => cases agg <;> rfl
   | io A => rfl
   | box os => rfl
   | bW os => rfl
theorem Fm {st : St} {k : Nat} {av : Option AV} (h : nth st k = some (dO k av)) : jg st k = 1 := by
 unfold jg; rw [h]
 cases av with
 | none => rfl
 | some av => cases av with
   | val agg os => cases agg <;> rfl
   | io A => rfl
   | box os => rfl
   | bW os => rfl
theorem zI : (os : List OV) → (j : Nat) → {A : iN} → nth (bw os) j = some (some A) → os[j]? = some (.own A)
 | [], _, _, h => by simp [bw] at h
 | o :: os, 0, A, h => by
   simp only [bw, nth, Option.some.injEq] at h
   cases o with
   | own B => injection h with h; subst h; rfl
   | _ => cases h
 | o :: os, j + 1, A, h => by
   have := zI os j (A := A) h; simpa using this
theorem Fo {d g : Nat} : (os : List OV) → (j k : Nat) → (o : OV) → os[k]? = some o → ∃ x, bp d g (j + k) [o] = [x] ∧ (bp d g j os)[k]? = some x
 | [], _, _, _, h => by simp at h
 | o :: os, j, 0, o', h => by
   simp only [List.getElem?_cons_zero, Option.some.injEq] at h; subst h
   cases o <;> exact ⟨_, rfl, rfl⟩
 | o :: os, j, k + 1, o', h => by
   obtain ⟨x, h1, h2⟩ := Fo (d := d) (g := g) os (j + 1) k o' (by simpa using h); rw [show j + 1 + k = j + (k + 1) by omega] at h1; refine ⟨x, h1, ?_⟩
   cases o <;> simpa [bp] using h2
theorem Dj {d g : Nat} : (os : List OV) → (j : Nat) → (bp d g j os).length = os.length
 | [], _ => rfl
 | o :: os, j => by cases o <;> simp [bp, Dj os (j + 1)]
theorem bT.N3 {c : Cz} {w : World} {f : Nat → Lb} {os : List OV} {vs : List Value} (h : bT c w f 0 os vs) (lcs : Nat → Loc) (ho : ∀ k A u, os[k]? = some (.own A) → vs[k]? = some u → ∃ l, OwnAt c w l (lcs k) A u)
   (c2 : Cz) (il : St) (d g : Nat) (gI : ∀ b, c.ok b → c2.ok b) (jh : ∀ k, c2.lc d k = lcs k) (AK : ∀ k A, bl il d k g = some A → os[k]? = some (.own A)) (hg : g ≤ ev il d) : fX c2 il w (bp d g 0 os) vs := by
 obtain ⟨h1, h2⟩ := bT.NZ os 0 vs h; refine ⟨by rw [Dj, h1], fun k x v hx hv => ?_⟩; have dm : k < os.length := by rw [← h1]; exact (List.getElem?_eq_some_iff.1 hv).1
 have Jl : os[k]? = some os[k] := List.getElem?_eq_getElem dm; obtain ⟨y, q1, q2⟩ := Fo (d := d) (g := g) os 0 k _ Jl; rw [q2] at hx
 cases hx
 have hL := h2 k _ v Jl hv; rw [Nat.zero_add] at q1; generalize os[k] = o at *
 cases o with
 | own A =>
   simp only [bp, List.cons.injEq, and_true] at q1; subst q1; obtain ⟨l, hO⟩ := ho k A v Jl hv; refine ⟨hO.1, hg, fun A' ft => ?_⟩; have := AK k A' ft; rw [Jl] at this
   cases this
   rw [jh]; exact hO.2.1
 | shr r xs =>
   simp only [bp, List.cons.injEq, and_true] at q1; subst q1; obtain ⟨v', l, e, h3, _⟩ := hL
   cases e
   exact cw.stays ⟨Nat.le_refl _, fun _ _ _ => rfl, fun b _ hb => gI b hb⟩ _ _ _ h3
 | mH r xs =>
   simp only [bp, List.cons.injEq, and_true] at q1; subst q1; obtain ⟨v', l, e, ⟨b, oo, e1, e2, e3, e4⟩, _⟩ := hL
   cases e
   exact ⟨b, oo, e1, e2, gI b e3, fun x hx => dw.stays ⟨Nat.le_refl _, fun _ _ _ => rfl, fun b _ hb => gI b hb⟩ _ _ _ _ rfl (e4 x hx)⟩
 | fn fg r xs =>
   simp only [bp, List.cons.injEq, and_true] at q1; subst q1; obtain ⟨v', l, e, h3, _⟩ := hL
   cases e
   exact h3.stays ⟨Nat.le_refl _, fun _ _ _ => rfl, fun b _ hb => gI b hb⟩
 | _ =>
   simp only [bp, List.cons.injEq, and_true] at q1; subst q1; obtain ⟨l, e, _⟩ := hL
   cases e
   rfl
theorem PU {c : Cz} {w : World} {k : Nat} {lio : Nat → Loc} {av : Option AV} {u : Value} (h : ∀ v, av = some v → sJ c w k lio v u) : ∃ oK lcs, N2 c w k av u lio oK lcs := by
 cases av with
 | none => exact ⟨0, fun _ => .nil, fun j A hA => by simp [dO, Sl.blank] at hA, fun c2 il _ _ _ _ => trivial, fun cs xF => by simp [dO, Sl.blank] at xF, fun A hA => (by cases hA), fun A hA => (by cases hA)⟩
 | some av =>
   have h := h av rfl
   cases av with
   | val agg os =>
     cases agg with
     | true =>
       obtain ⟨vs, rfl, hl⟩ := h; obtain ⟨lcs, g1, g2⟩ := bT.cells os 0 _ hl; simp only [Nat.zero_add] at g1 g2; refine ⟨0, lcs, fun j A hA => g1 j A hA, fun c2 il gI _ jh hn => ⟨vs, rfl, ?_⟩, fun cs xF => by simp [dO] at xF, fun A hA => (by cases hA), fun A hA => (by cases hA)⟩; exact g2 c2 il k 1 gI (fun j _ => by rw [jh]) (fun j A _ hA => rn hn hA) (by rw [rp hn]; exact Nat.le_refl _)
     | false =>
       have hl : bT c w (.cA k) 0 os [u] := h; obtain ⟨lcs, g1, g2⟩ := bT.cells os 0 _ hl; simp only [Nat.zero_add] at g1 g2; refine ⟨0, lcs, fun j A hA => g1 j A hA, fun c2 il gI _ jh hn => ?_, fun cs xF => by simp [dO] at xF, fun A hA => (by cases hA), fun A hA => (by cases hA)⟩; have hR := g2 c2 il k 1 gI (fun j _ => by rw [jh]) (fun j A _ hA => rn hn hA) (by rw [rp hn]; exact Nat.le_refl _); show fY c2 il w (match bp k 1 0 os with | [c] => .one c | _ => .one .bad) u; have h1 := hR.1
       cases hc : bp k 1 0 os with
       | nil => trivial
       | cons x l => cases l with
         | nil => rw [hc] at hR; exact hR.2 0 x u rfl rfl
         | cons _ _ => trivial
   | io A =>
     have hO : OwnAt c w (.cA k 0) (lio 0) A u := h; refine ⟨0, lio, fun j A' ft => ?_, fun c2 il gI _ jh hn => ?_, fun cs xF => by simp [dO] at xF, fun A hA => rfl, fun A hA => by cases hA⟩
     · cases j with
       | zero => simp [dO, nth] at ft; subst ft; exact ⟨u, hO⟩
       | succ j => simp [dO, nth] at ft
     · refine ⟨hO.1, by rw [rp hn]; exact Nat.le_refl _, fun A' ft => ?_⟩; have := rn hn ft; simp [dO, nth] at this; subst this; rw [jh]; exact hO.2.1
   | bW os =>
     obtain ⟨vs, rfl, hl, NQ⟩ := h; have gP : ∀ j A u, os[j]? = some (.own A) → vs.toList[j]? = some u → OwnAt c w (.cA k j) (lio j) A u := fun j A u h1 h2 => NQ j _ u h1 h2
     obtain ⟨n1, _⟩ := bT.NZ os 0 _ hl; refine ⟨0, lio, fun j A' ft => ?_, fun c2 il gI _ jh hn => ⟨vs, rfl, ?_⟩, fun cs xF => by simp [dO] at xF, fun A hA => (by cases hA), fun zw _ => rfl⟩
     · have hj := zI os j ft; have dm : j < vs.toList.length := by rw [n1]; exact (List.getElem?_eq_some_iff.1 hj).1
       exact ⟨_, gP j A' _ hj (List.getElem?_eq_getElem dm)⟩
     · exact bT.N3 hl lio (fun j A u h1 h2 => ⟨_, gP j A u h1 h2⟩) c2 il k 1 gI (fun j => by rw [jh]) (fun j A hA => zI os j (rn hn hA)) (by rw [rp hn]; exact Nat.le_refl _)
   | box os =>
     obtain ⟨oK, vs, ty, h1, h2, h3, hl⟩ := h; obtain ⟨lcs, g1, g2⟩ := bT.cells os 0 _ hl; simp only [Nat.zero_add] at g1 g2; refine ⟨oK, lcs, fun j A hA => g1 j A hA, fun c2 il gI Cf jh hn => ⟨by rw [h1]; rfl, by rw [Fm hn]; exact Nat.le_refl _, fun cs _ => by rw [Cf]; exact h1⟩, fun cs xF => ⟨h1, h2, vs, ty, h3, fun c2 il gI jh hn => ?_⟩, fun A hA => (by cases hA), fun A hA => (by cases hA)⟩; simp only [dO, Option.some.injEq] at xF; subst xF; exact g2 c2 il k 1 gI (fun j _ => by rw [jh]) (fun j A _ hA => rn hn hA) (by rw [rp hn]; exact Nat.le_refl _)
theorem Rel.KP {w0 : World} {mu : Mu} {c : Cz} {a : Act} {w : World} {L : List (Option AV)} {lc : Nat → Nat → Loc} (hb : By w0 mu c w) (hd : a.defers = []) (hL : AR c w lc a 0 L) (hA : ∀ p ∈ mu.an, N0 L lc a p) : ∃ c', Rel w0 mu c' (oF 0 L) a w := by
 have PR : ∀ k, ∃ q : Nat × (Nat → Loc), N2 c w k ((L[k]?).getD none) (a.eval (.tmp k)) (lc k) q.1 q.2 := by
   intro k; obtain ⟨oK, lcs, h⟩ := PU (c := c) (w := w) (k := k) (lio := lc k) (av := (L[k]?).getD none) (u := a.eval (.tmp k)) (fun v hv => by
     have := hL k v (by
       cases hq : L[k]? with
       | none => rw [hq] at hv; cases hv
       | some o => rw [hq] at hv; simp at hv; rw [hv])
     simpa using this)
   exact ⟨(oK, lcs), h⟩
 obtain ⟨q, hq⟩ := Classical.axiomOfChoice PR; have hn : ∀ k, nth (oF 0 L) k = (L[k]?).map (dO k) := fun k => by have := Fk L 0 k; simpa using this
 have Lr : ∀ k sl, nth (oF 0 L) k = some sl → ∃ o, L[k]? = some o ∧ sl = dO k o ∧ nth (oF 0 L) k = some (dO k ((L[k]?).getD none)) ∧ (L[k]?).getD none = o := by
   intro k sl h; rw [hn] at h
   cases ho : L[k]? with
   | none => rw [ho] at h; cases h
   | some o =>
     rw [ho] at h
     cases h
     refine ⟨o, rfl, rfl, ?_, rfl⟩; rw [hn, ho]; rfl
 let c' := c.eT N1 (fun k => (q k).1) (fun k => (q k).2)
 have gI : ∀ b, c.ok b → c'.ok b := fun b hb => Cz.pf.2 hb
 refine ⟨c', fun t => ?_, fun s sl cs hs Cf => ?_, fun s j sl A hs ft => ?_, fun b l hl => ?_, fun b dm hl => hb.free b dm (by simpa [c', Cz.eT] using hl), hb.kept, hb.old, hd, fun p hp => ?_⟩
 · cases hs : nth (oF 0 L) t with
   | none =>
     have : da (oF 0 L) t = .one .bad := by unfold da; rw [hs]
     rw [this]; trivial
   | some sl =>
     obtain ⟨o, h1, rfl, h3, h4⟩ := Lr t sl hs; have : da (oF 0 L) t = (dO t ((L[t]?).getD none)).v := by unfold da; rw [h3]
     rw [this]; exact (hq t).reg c' (oF 0 L) gI rfl rfl h3
 · obtain ⟨o, h1, rfl, h3, h4⟩ := Lr s sl hs; rw [← h4] at Cf; obtain ⟨g1, g2, vs, ty, g3, g4⟩ := (hq s).box cs Cf; refine ⟨?_, vs, ty, g3, g4 c' (oF 0 L) gI rfl h3⟩; show (c.own (q s).1).map N1 = _; rw [g2]; rfl
 · obtain ⟨o, h1, rfl, h3, h4⟩ := Lr s sl hs; rw [← h4] at ft; obtain ⟨v, hv⟩ := (hq s).arr j A ft; exact hv.arr rfl rfl
 · simp only [c', Cz.eT, Option.map_eq_some_iff] at hl; obtain ⟨k, hk, e⟩ := hl; obtain ⟨h1, h2⟩ := hb.owned b k hk; refine ⟨h1, h2.imp (fun e2 => ?_) id⟩; subst e2; rw [← e]; rfl
 · have hf := hA p hp
   cases p with
   | arr i j g W n l =>
     obtain ⟨rfl, hi, Hy⟩ := hf; have hs : nth (oF 0 L) i = some (dO i ((L[i]?).getD none)) := by rw [hn]; simp [List.getElem?_eq_getElem hi]
     refine ⟨by rw [rp hs]; exact Nat.le_refl _, fun A ft => ?_⟩; have h3 := rn hs ft
     cases ho : L[i]? with
     | none => rw [ho] at h3; simp [dO, Sl.blank] at h3
     | some o => cases o with
       | none => rw [ho] at h3; simp [dO, Sl.blank] at h3
       | some av =>
         rcases Hy av ho with ⟨A0, rfl, h5⟩ | ⟨os, rfl, h5⟩
         case inr =>
           rw [ho] at h3; obtain ⟨e1, e2, e3⟩ := h5 A (zI os j h3); refine ⟨e1, e2, ?_⟩; rw [← e3]; have := (hq i).bW os (by rw [ho]; rfl); show (q i).2 j = lc i j; rw [this]
         rw [ho] at h3
         cases j with
         | zero =>
           simp [dO, nth] at h3; subst h3; obtain ⟨e1, e2, e3⟩ := h5 rfl; exact ⟨e1, e2, ((hq i).io A0 (by rw [ho]; rfl)).trans e3⟩
         | succ j => simp [dO, nth] at h3
   | box i g oK =>
     obtain ⟨rfl, hi, Hy⟩ := hf; have hs : nth (oF 0 L) i = some (dO i ((L[i]?).getD none)) := by rw [hn]; simp [List.getElem?_eq_getElem hi]
     refine ⟨by rw [Fm hs]; exact Nat.le_refl _, fun cs xF => ?_⟩; obtain ⟨sl, k1, k2, k3⟩ := iF xF; rw [hs] at k1; cases k1; obtain ⟨g1, _⟩ := (hq i).box cs k3; have s4 : ∃ os, L[i]? = some (some (.box os)) := by
       cases ho : L[i]? with
       | none => rw [ho] at k3; simp [dO, Sl.blank] at k3
       | some o => cases o with
         | none => rw [ho] at k3; simp [dO, Sl.blank] at k3
         | some av => cases av with
           | val agg os => rw [ho] at k3; cases agg <;> simp [dO] at k3
           | io A => rw [ho] at k3; simp [dO] at k3
           | bW os => rw [ho] at k3; simp [dO] at k3
           | box os => exact ⟨os, rfl⟩
     obtain ⟨os, s4⟩ := s4; have := Hy os s4; rw [this] at g1; injection g1 with g1; injection g1 with g1; injection g1 with g1; exact g1.symm
end Go.TM
namespace Go.TM
open Go Go.RowKit
inductive Src where
 | tmp (t : Nat)
 | cell (t : Nat)
 | ptr (t : Nat)  -- IU struct behind a pointer, ahu is kL back
structure RP where
 src : Src
 agg : Bool
 ps : List OP
def dj : List RP → RT → RT
 | [], t => t
 | r :: rs, t => my r.ps (dj rs t)
def rO : List OP → RT → RT
 | [], t => t
 | .own r _ :: ps, t => .cons (.sl r) (rO ps t)
 | .int _ :: ps, t => rO ps t
 | .bool :: ps, t => rO ps t
 | .str :: ps, t => rO ps t
 | .shr _ :: ps, t => rO ps t
 | .mH _ :: ps, t => rO ps t
 | .fn _ _ :: ps, t => rO ps t
def bU : List AP → RT
 | [] => .nil
 | .val _ _ :: l => bU l
 | .io r _ :: l => .cons (.sl r) (bU l)
 | .box _ ps :: l => my ps (bU l)
 | .bW ps :: l => rO ps (bU l)
def RP.cells (st : St) (r : RP) : Option (List CV) :=
 match r.src with
 | .tmp t => match da st t with
   | .agg cs => bif r.agg then some cs else none
   | .one c => bif r.agg then none else some [c]
   | .ot _ => none
 | .cell t => match da st t with
   | .one (.ptr b g off) => bif Nat.beq off 0 then eR st b g else none
   | _ => none
 | .ptr t => match da st t with
   | .one (.ptr b g off) => bif Nat.beq off 0 then eR st b g else none
   | _ => none
def RP.Wb (st : St) (r : RP) : List (Option Lb) :=
 match r.src with
 | .ptr t => (match da st t with | .one (.ptr b _ _) => [some (.box b)] | _ => [])
 | _ => []
def Dk (st : St) : (rs : List RP) → (t : RT) → aq t → Option (aq (dj rs t) × List (Option Lb) × List (Nat × Nat))
 | [], _, y => some (y, [], [])
 | r :: rs, t, y => (r.cells st).bind fun cs => (Dk st rs t y).bind fun q => (k8 st r.ps (dj rs t) cs q.1).map fun p => (p.1, r.Wb st ++ (p.2.1 ++ q.2.1), p.2.2 ++ q.2.2)
def mz (st : St) (i : Nat) : (j : Nat) → (ps : List OP) → (t : RT) → aq t → Option (aq (rO ps t) × List Lb)
 | _, [], _, y => some (y, [])
 | j, .own r d :: ps, t, y => (mz st i (j + 1) ps t y).bind fun q => (bl st i j 1).bind fun A => bif A.own && A.md.is d then (ck r A.xs).map fun xs => ((xs, q.1), .sp i j :: q.2) else none
 | j, .int _ :: ps, t, y => mz st i (j + 1) ps t y
 | j, .bool :: ps, t, y => mz st i (j + 1) ps t y
 | j, .str :: ps, t, y => mz st i (j + 1) ps t y
 | j, .shr _ :: ps, t, y => mz st i (j + 1) ps t y
 | j, .mH _ :: ps, t, y => mz st i (j + 1) ps t y
 | j, .fn _ _ :: ps, t, y => mz st i (j + 1) ps t y
def s7 (st : St) : (i : Nat) → (ps : List AP) → Option (aq (bU ps) × List Lb × List (Nat × Nat))
 | _, [] => some ((), [], [])
 | i, .val _ _ :: l => s7 st (i + 1) l
 | i, .io r d :: l => (s7 st (i + 1) l).bind fun q => (BF st i (.io r d) (bU l) (.one (.ref i 0 1 .full)) q.1).map fun p => (p.1, p.2.1 ++ q.2.1, p.2.2 ++ q.2.2)
 | i, .box _ ps :: l => (s7 st (i + 1) l).bind fun q => (BF st i (.box true ps) (bU l) (.one (.ptr i 1 0)) q.1).map fun p => (p.1, p.2.1 ++ q.2.1, p.2.2 ++ q.2.2)
 | i, .bW ps :: l => (s7 st (i + 1) l).bind fun q => (mz st i 0 ps (bU l) q.1).map fun p => (p.1, p.2 ++ q.2.1, q.2.2)
def Ci (rs : List RP) (ps : List AP) : Ex → St → Option (aq (dj rs (bU ps)))
 | .exit _, _ => none
 | _, st => (s7 st 0 ps).bind fun x => (Dk st rs (bU ps) x.1).bind fun q => bif ub (cq q.2.1 ++ x.2.1) && apart (cq q.2.1 ++ x.2.1) (q.2.2 ++ x.2.2) then some q.1 else none
def RP.rv (r : RP) (os : List OV) : RV :=
 match r.src with
 | .ptr _ => .ptr os
 | _ => match r.agg, os with
   | false, [o] => .one o
   | _, os => .agg os
def gv : (rs : List RP) → (t : RT) → aq (dj rs t) → List RV × aq t
 | [], _, x => ([], x)
 | r :: rs, t, x => (r.rv (ed r.ps (dj rs t) x).1 :: (gv rs t (ed r.ps (dj rs t) x).2).1, (gv rs t (ed r.ps (dj rs t) x).2).2)
def nh : (ps : List OP) → (t : RT) → aq (rO ps t) → List (Option iN) × aq t
 | [], _, x => ([], x)
 | .own r d :: ps, t, x => (some { r := r, own := true, xs := x.1, md := d } :: (nh ps t x.2).1, (nh ps t x.2).2)
 | .int _ :: ps, t, x => (none :: (nh ps t x).1, (nh ps t x).2)
 | .bool :: ps, t, x => (none :: (nh ps t x).1, (nh ps t x).2)
 | .str :: ps, t, x => (none :: (nh ps t x).1, (nh ps t x).2)
 | .shr _ :: ps, t, x => (none :: (nh ps t x).1, (nh ps t x).2)
 | .mH _ :: ps, t, x => (none :: (nh ps t x).1, (nh ps t x).2)
 | .fn _ _ :: ps, t, x => (none :: (nh ps t x).1, (nh ps t x).2)
def mX : (ps : List AP) → aq (bU ps) → List XV
 | [], _ => []
 | .val _ _ :: l, x => mX l x
 | .io r d :: l, x => .io { r := r, own := true, xs := x.1, md := d } :: mX l x.2
 | .box _ ps :: l, x => .box (ed ps (bU l) x).1 :: mX l (ed ps (bU l) x).2
 | .bW ps :: l, x => .bW (nh ps (bU l) x).1 :: mX l (nh ps (bU l) x).2
def mA (ps : List AP) (rs : List RP) (t : aq (az (ps.map some)) → Option (aq (dj rs (bU ps)))) : vW := fun eg =>
 match fF ps eg with
 | some x => some { r := dj rs (bU ps), o := t x, res := fun y => { outs := (gv rs (bU ps) y).1, exts := mX ps (gv rs (bU ps) y).2 } }
 | none => none
theorem j4 {st : St} {i : Nat} : (ps : List OP) → (j : Nat) → (t : RT) → (y : aq t) → {x : aq (rO ps t)} → {u : List Lb} → mz st i j ps t y = some (x, u) → (nh ps t x).2 = y ∧ (∀ l ∈ u, ∃ k, l = .sp i k) ∧
   ∀ (k : Nat) (r : RT) (d : Md), ps[k]? = some (.own r d) → ∃ A xs, bl st i (j + k) 1 = some A ∧ A.own = true ∧ A.md = d ∧ ck r A.xs = some xs ∧ nth (nh ps t x).1 k = some (some { r := r, own := true, xs := xs, md := d }) ∧ .sp i (j + k) ∈ u
 | [], j, t, y, x, u, h => by
   injection h with h; injection h with e1 e2; subst e1 e2; exact ⟨rfl, by simp, fun k r d hk => by simp at hk⟩
 | .own r d :: ps, j, t, y, x, u, h => by
   unfold mz at h; obtain ⟨q, hq, h⟩ := Option.bind_eq_some_iff.1 h; obtain ⟨A, hA, h⟩ := Option.bind_eq_some_iff.1 h; obtain ⟨ho, h⟩ := aH h; rw [Bool.and_eq_true] at ho; obtain ⟨xs, Rr, h⟩ := Option.map_eq_some_iff.1 h; injection h with e1 e2; subst e1 e2; obtain ⟨z, us⟩ := q; obtain ⟨g1, g2, g3⟩ := j4 ps (j + 1) t y hq; refine ⟨g1, fun l hl => ?_, fun k r' d' hk => ?_⟩
   · rcases List.mem_cons.1 hl with rfl | hl
     · exact ⟨j, rfl⟩
     · exact g2 l hl
   · cases k with
     | zero =>
       simp only [List.getElem?_cons_zero, Option.some.injEq, OP.own.injEq] at hk; obtain ⟨rfl, rfl⟩ := hk; exact ⟨A, xs, hA, ho.1, Md.oG.1 ho.2, Rr, rfl, List.mem_cons_self⟩
     | succ k =>
       obtain ⟨A', WT, k1, k2, kd, k3, k4, k5⟩ := g3 k r' d' (by simpa using hk); rw [show j + 1 + k = j + (k + 1) by omega] at k1 k5; exact ⟨A', WT, k1, k2, kd, k3, k4, List.mem_cons_of_mem _ k5⟩
 | .int _ :: ps, j, t, y, x, u, h => kH (j4 ps (j + 1) t y h) (by simp) (fun k => rfl)
 | .bool :: ps, j, t, y, x, u, h => kH (j4 ps (j + 1) t y h) (by simp) (fun k => rfl)
 | .str :: ps, j, t, y, x, u, h => kH (j4 ps (j + 1) t y h) (by simp) (fun k => rfl)
 | .shr _ :: ps, j, t, y, x, u, h => kH (j4 ps (j + 1) t y h) (by simp) (fun k => rfl)
 | .mH _ :: ps, j, t, y, x, u, h => kH (j4 ps (j + 1) t y h) (by simp) (fun k => rfl)
 | .fn _ _ :: ps, j, t, y, x, u, h => kH (j4 ps (j + 1) t y h) (by simp) (fun k => rfl)
where
 kH {st : St} {i j : Nat} {p : OP} {ps : List OP} {D : Type} {y z : D} {L L' : List (Option iN)} {u : List Lb} (h : z = y ∧ (∀ l ∈ u, ∃ k, l = .sp i k) ∧ ∀ (k : Nat) (r : RT) (d : Md), ps[k]? = some (.own r d) → ∃ A xs, bl st i (j + 1 + k) 1 = some A ∧ A.own = true ∧ A.md = d ∧ ck r A.xs = some xs ∧ nth L k = some (some { r := r, own := true, xs := xs, md := d }) ∧ .sp i (j + 1 + k) ∈ u)
     (hp : ∀ r d, p ≠ .own r d) (hL : ∀ k, nth L' (k + 1) = nth L k) : z = y ∧ (∀ l ∈ u, ∃ k, l = .sp i k) ∧ ∀ (k : Nat) (r : RT) (d : Md), (p :: ps)[k]? = some (.own r d) → ∃ A xs, bl st i (j + k) 1 = some A ∧ A.own = true ∧ A.md = d ∧ ck r A.xs = some xs ∧ nth L' k = some (some { r := r, own := true, xs := xs, md := d }) ∧ .sp i (j + k) ∈ u := by
   obtain ⟨h1, h2, h3⟩ := h; refine ⟨h1, h2, fun k r d hk => ?_⟩
   cases k with
   | zero =>
     simp only [List.getElem?_cons_zero, Option.some.injEq] at hk; exact absurd hk (hp r d)
   | succ k =>
     obtain ⟨A', WT, k1, k2, kd, k3, k4, k5⟩ := h3 k r d (by simpa using hk); rw [show j + 1 + k = j + (k + 1) by omega] at k1 k5; exact ⟨A', WT, k1, k2, kd, k3, by rw [hL]; exact k4, k5⟩
theorem Fp {st : St} : (ps : List OP) → (t : RT) → (cs : List CV) → (y : aq t) → {x : aq (my ps t)} → {u : List (Option Lb)} → {r : List (Nat × Nat)} → k8 st ps t cs y = some (x, u, r) → u.length = ps.length ∧ cs.length = ps.length ∧ (ed ps t x).1.length = ps.length
 | [], t, [], y, x, u, r, h => by
   injection h with h; injection h with e1 e2; injection e2 with e2 e3; subst e1 e2 e3; exact ⟨rfl, rfl, rfl⟩
 | [], t, _ :: _, y, x, u, r, h => by simp [k8] at h
 | _ :: _, t, [], y, x, u, r, h => by simp [k8] at h
 | p :: ps, t, c :: cs, y, x, u, r, h => by
   unfold k8 at h
   cases hc : gu st p.oD c with
   | none => simp [hc] at h
   | some q1 =>
     obtain ⟨o, u1, r1⟩ := q1
     cases hq : k8 st ps t cs y with
     | none => simp [hc, hq] at h
     | some q2 =>
       obtain ⟨z, us, rs⟩ := q2; simp only [hc, hq] at h
       cases ho : rN p o with
       | none => simp [ho] at h
       | some a1 =>
         simp only [ho] at h; injection h with h; injection h with e1 e2; injection e2 with e2 e3; subst e1 e2 e3; obtain ⟨g1, g2, g3⟩ := Fp ps t cs y hq; exact ⟨by simp [g1], by simp [g2], by simp [ed, g3]⟩
def N4 (T : lZ) (fr : Array Value) : ResultVar → RP → Prop
 | .tmp t, r => r.src = .tmp t ∨ r.src = .ptr t
 | .cell t ty, r => r.src = .cell t ∧ T.cells ty = some r.ps.length ∧ T.agg ty = r.agg
def Dl (tm : Array Value) : ResultVar → Sem Value
 | .tmp t => pure (tm.getD t undef)
 | .cell a t => do loadVar t (← asAddr (tm.getD a undef))
theorem RP.N5 {P : Program} {T : lZ} (hT : gX P T) {w0 : World} {mu : Mu} {c : Cz} {st : St} {a : Act} {w : World} (h : Rel w0 mu c st a w) {r : RP} {rv : ResultVar} (hr : N4 T a.tmps rv r) {cs : List CV} (hc : r.cells st = some cs) (hn : cs.length = r.ps.length) :
   ∃ vs v, fX c st w cs vs ∧ (Dl a.tmps rv).run P w = .ok v w ∧ (((∀ t, r.src ≠ .ptr t) ∧ ((r.agg = true ∧ v = .agg vs.toArray) ∨ (r.agg = false ∧ (vs = [v])))) ∨
     (∃ t b ty us, r.src = .ptr t ∧ r.Wb st = [some (.box b)] ∧ v = .pointer (some ⟨c.bx b, 0, none⟩) ∧ c.own (c.bx b) = some (.box b) ∧ w.heap[c.bx b]? = some (.cells us ty (0, 0)) ∧ vs = us.toList)) := by
 unfold RP.cells at hc
 cases rv with
 | tmp t =>
   rcases (hr : r.src = .tmp t ∨ r.src = .ptr t) with hs | hs
   case inr =>
     rw [hs] at hc; have tn := h.gJ t; simp only at hc
     cases hv : da st t with
     | ot _ => rw [hv] at hc; cases hc
     | agg l => rw [hv] at hc; cases hc
     | one x =>
       cases x with
       | ptr b g off =>
         rw [hv] at hc tn; obtain ⟨ho, hb⟩ := aH hc; have ho := Nat.eq_of_beq_eq_true ho; subst ho; obtain ⟨sl, k1, k2, k3⟩ := iF hb; obtain ⟨q1, vs, ty', q2, q3⟩ := h.boxes b sl cs k1 k3; have e : a.tmps.getD t undef = .pointer (some ⟨c.bx b, 0, none⟩) := tn.2.2 cs hb; refine ⟨vs.toList, a.tmps.getD t undef, q3, rfl, .inr ⟨t, b, ty', vs, hs, ?_, e, q1, q2, rfl⟩⟩; unfold RP.Wb; rw [hs]; simp only [hv]
       | _ => rw [hv] at hc; cases hc
   rw [hs] at hc; have tn := h.gJ t; simp only at hc
   cases hv : da st t with
   | ot _ => rw [hv] at hc; cases hc
   | agg l =>
     rw [hv] at hc tn; obtain ⟨KQ, hc1⟩ := aH hc
     cases hc1
     obtain ⟨vs, e, hl⟩ := tn; exact ⟨vs.toList, a.eval (.tmp t), hl, rfl, .inl ⟨fun t' e' => (by rw [hs] at e'; cases e'), .inl ⟨KQ, by rw [e]⟩⟩⟩
   | one x =>
     rw [hv] at hc tn; simp only at hc
     cases KQ : r.agg with
     | true => rw [KQ] at hc; cases hc
     | false =>
       rw [KQ] at hc
       cases hc
       refine ⟨[a.eval (.tmp t)], a.eval (.tmp t), ⟨rfl, fun i y z hy hz => ?_⟩, rfl, .inl ⟨fun t' e' => (by rw [hs] at e'; cases e'), .inr ⟨rfl, rfl⟩⟩⟩
       cases i with
       | zero => simp at hy hz; subst hy hz; exact tn
       | succ i => simp at hy
 | cell t ty =>
   obtain ⟨hs, h1, h2⟩ := hr; rw [hs] at hc; have tn := h.gJ t; simp only at hc
   cases hv : da st t with
   | ot _ => rw [hv] at hc; cases hc
   | agg l => rw [hv] at hc; cases hc
   | one x =>
     cases x with
     | ptr b g off =>
       rw [hv] at hc tn; obtain ⟨ho, hb⟩ := aH hc; have ho := Nat.eq_of_beq_eq_true ho; subst ho; obtain ⟨sl, k1, k2, k3⟩ := iF hb; obtain ⟨q1, vs, ty', q2, q3⟩ := h.boxes b sl cs k1 k3; have e : a.tmps.getD t undef = .pointer (some ⟨c.bx b, 0, none⟩) := tn.2.2 cs hb; have Sw : w.rangeAt (c.bx b) 0 vs.toList := by
         have := Bp (off := 0) q2 vs.toList.length
         rwa [List.drop_zero, List.take_length] at this
       have hlen : vs.toList.length = r.ps.length := by rw [← q3.1, hn]
       have pJ := sE (P := P) hT h1 w (c.bx b) 0 vs.toList Sw hlen; refine ⟨vs.toList, valOf (T.agg ty) vs.toList, q3, ?_, .inl ⟨fun t' e' => (by rw [hs] at e'; cases e'), ?_⟩⟩
       · simp [Dl, e, asAddr, Sem.run_bind, pJ]
       · rw [h2]
         cases KQ : r.agg with
         | true => exact .inl ⟨rfl, by simp [valOf]⟩
         | false =>
           obtain ⟨_, _, _, Ga⟩ := hT.agg ty _ h1; have h3 := Ga (by rw [h2, KQ]); refine .inr ⟨rfl, ?_⟩; have : vs.toList.length = 1 := by rw [hlen, h3]
           cases zn : vs.toList with
           | nil => rw [zn] at this; cases this
           | cons x l => cases l with
             | nil => rfl
             | cons _ _ => rw [zn] at this; simp at this
     | _ => rw [hv] at hc; cases hc
end Go.TM
namespace Go.TM
open Go Go.RowKit
def x9 (T : lZ) (tm : Array Value) : List ResultVar → List RP → Prop
 | [], [] => True
 | v :: vs, r :: rs => N4 T tm v r ∧ x9 T tm vs rs
 | _, _ => False
theorem Fq {P : Program} {T : lZ} (hT : gX P T) {w0 : World} {mu : Mu} {c : Cz} {st : St} {a : Act} {w : World} (h : Rel w0 mu c st a w) : (XC : List ResultVar) → (rs : List RP) → x9 T a.tmps XC rs → (t : RT) → (y : aq t) → {x : aq (dj rs t)} → {u : List (Option Lb)} → {r : List (Nat × Nat)} → Dk st rs t y = some (x, u, r) →
   (gv rs t x).2 = y ∧ (gv rs t x).1.length = rs.length ∧ (∀ l ∈ cq u, l.real = true) ∧ ∃ vals : List Value, (XC.mapM (Dl a.tmps)).run P w = .ok vals w ∧ vals.length = XC.length ∧
     ∀ (ρ : Lb → Option Lb) (j : Nat), (∀ k l, nth u k = some (some l) → ρ l = some (.jc (j + k))) → (∀ p ∈ r, ρ (.sp p.1 p.2) = none) → l9 (c.map ρ) w j (gv rs t x).1 vals
 | [], [], _, t, y, x, u, r, he => by
   injection he with he; injection he with e1 e2; injection e2 with e2 e3; subst e1 e2 e3; exact ⟨rfl, rfl, by simp [cq], [], rfl, rfl, fun _ _ _ _ => rfl⟩
 | [], _ :: _, hf, _, _, _, _, _, _ => hf.elim
 | _ :: _, [], hf, _, _, _, _, _, _ => hf.elim
 | rv :: XC, rr :: rs, hf, t, y, x, u, r, he => by
   unfold Dk at he; obtain ⟨cs, hc, he⟩ := Option.bind_eq_some_iff.1 he; obtain ⟨q, hq, he⟩ := Option.bind_eq_some_iff.1 he; obtain ⟨p, hp, he⟩ := Option.map_eq_some_iff.1 he; obtain ⟨x2, u2, r2⟩ := q; obtain ⟨x1, u1, r1⟩ := p; injection he with e1 e2; injection e2 with e2 e3; subst e1 e2 e3; obtain ⟨l1, l2, l3⟩ := Fp rr.ps _ cs _ hp; obtain ⟨vs, v, g1, g2, g3⟩ := RP.N5 hT h hf.1 hc l2; obtain ⟨k1, k2, k3, vals, k4, k5, k6⟩ := Fq hT h XC rs hf.2 t y hq; have h0 := fun (ρ : Lb → Option Lb) (j : Nat) => wz h (ρ := ρ) (f := .jc) rr.ps (dj rs t) cs x2 vs j g1 hp
   have e0 := (h0 (fun _ => none) 0).1; refine ⟨?_, ?_, fun l hl => ?_, v :: vals, ?_, by simp [k5], fun ρ j hu hr => ?_⟩
   · show (gv rs t (ed rr.ps (dj rs t) x1).2).2 = y; rw [e0]; exact k1
   · show (gv rs t (ed rr.ps (dj rs t) x1).2).1.length + 1 = _; rw [e0, k2]; rfl
   · rw [hZ] at hl; rcases List.mem_append.1 hl with hl | hl
     · unfold RP.Wb at hl
       split at hl
       · split at hl
         · simp only [List.mem_singleton, Option.some.injEq] at hl; subst hl; rfl
         · cases hl
       · cases hl
     · rcases List.mem_append.1 hl with hl | hl
       · exact (h0 (fun _ => none) 0).2.1 l (hZ.2 hl)
       · exact k3 l (hZ.2 hl)
   · rw [List.mapM_cons]; simp [Sem.run_bind, g2, k4]
   · have e : (gv (rr :: rs) t x1).1 = rr.rv (ed rr.ps (dj rs t) x1).1 :: (gv rs t x2).1 := by
       show rr.rv (ed rr.ps (dj rs t) x1).1 :: (gv rs t (ed rr.ps (dj rs t) x1).2).1 = _; rw [e0]
     show l9 (c.map ρ) w j (gv (rr :: rs) t x1).1 (v :: vals); rw [e]; rcases g3 with ⟨hnp, g3⟩ | ⟨tt, b, ty, us, Sx, Sy, hv, gP, NL, zn⟩
     · have Sy : rr.Wb st = [] := by
         unfold RP.Wb
         split
         · rename_i t' e'; exact absurd e' (hnp t')
         · rfl
       rw [Sy, List.nil_append] at hu; have hL := (h0 ρ j).2.2 (fun k l hk => hu k l (by
         rw [mU, if_pos (F2 hk)]; exact hk)) (fun p hp => hr p (List.mem_append_left _ hp))
       have fL := k6 ρ (j + rr.ps.length) (fun k l hk => by
         have := hu (rr.ps.length + k) l (by rw [mU, l1, if_neg (by omega), Nat.add_sub_cancel_left]; exact hk); rw [Nat.add_assoc]; exact this) (fun p hp => hr p (List.mem_append_right _ hp))
       have hrv : ∀ os, rr.rv os = (match rr.agg, os with | false, [o] => RV.one o | _, os => RV.agg os) := by
         intro os; unfold RP.rv
         split
         · rename_i t' e'; exact absurd e' (hnp t')
         · rfl
       rcases g3 with ⟨ha, rfl⟩ | ⟨ha, rfl⟩
       · have er : rr.rv (ed rr.ps (dj rs t) x1).1 = .agg (ed rr.ps (dj rs t) x1).1 := by rw [hrv, ha]
         rw [er]; exact ⟨vs.toArray, vals, rfl, by simpa using hL, by rw [l3]; exact fL⟩
       · have hlen : cs.length = 1 := g1.1; have : (ed rr.ps (dj rs t) x1).1.length = 1 := by rw [l3, ← l2, hlen]
         cases ho : (ed rr.ps (dj rs t) x1).1 with
         | nil => rw [ho] at this; cases this
         | cons o l => cases l with
           | cons _ _ => rw [ho] at this; simp at this
           | nil =>
             have er : rr.rv [o] = .one o := by rw [hrv, ha]
             rw [er]; rw [ho] at hL; refine ⟨v, vals, rfl, hL, ?_⟩; rw [← l2, hlen] at fL; exact fL
     · rw [Sy] at hu; have hb := hu 0 (.box b) rfl; have hL := (h0 ρ (j + 1)).2.2 (fun k l hk => by
         have := hu (k + 1) l (by
           show nth (u1 ++ u2) k = _; rw [mU, if_pos (F2 hk)]; exact hk)
         rwa [show j + (k + 1) = j + 1 + k by omega] at this) (fun p hp => hr p (List.mem_append_left _ hp))
       have fL := k6 ρ (j + (rr.ps.length + 1)) (fun k l hk => by
         have := hu (rr.ps.length + k + 1) l (by
           show nth (u1 ++ u2) (rr.ps.length + k) = _; rw [mU, l1, if_neg (by omega), Nat.add_sub_cancel_left]; exact hk)
         rwa [show j + (rr.ps.length + k + 1) = j + (rr.ps.length + 1) + k by omega] at this) (fun p hp => hr p (List.mem_append_right _ hp))
       have er : rr.rv (ed rr.ps (dj rs t) x1).1 = .ptr (ed rr.ps (dj rs t) x1).1 := by unfold RP.rv; rw [Sx]
       rw [er]; subst zn; refine ⟨v, vals, rfl, ⟨c.bx b, us, ty, hv, ?_, NL, hL⟩, by rw [l3]; exact fL⟩; rw [Nat.add_zero] at hb; exact (Cz.kR gP).trans hb
def Gh (mu : Mu) (lc : Nat → Nat → Loc) (i : Nat) (ps : List AP) (eg : List AV) (vs : List Value) : Prop :=
 ∀ (k : Nat) (p : AP) (av : AV) (v : Value), ps[k]? = some p → eg[k]? = some av → vs[k]? = some v → match p, av with
   | .io _ _, .io A => v.oneCell' = true ∧ jJ (lc (i + k) 0) A.r.width 0 A.xs.length v ∧ Lk.arr (i + k) 0 1 A.r.width A.xs.length (lc (i + k) 0) ∈ mu.an
   | .box _ _, .box _ => ∃ oK, v = .pointer (some ⟨oK, 0, none⟩) ∧ Lk.box (i + k) 1 oK ∈ mu.an
   | .val _ _, .val _ _ => True
   | .bW qs, .bW os => ∃ us, v = .agg us ∧ ∀ j A, os[j]? = some (.own A) → (∃ r d, qs[j]? = some (.own r d)) ∧ ∃ u, us.toList[j]? = some u ∧ u.oneCell' = true ∧ jJ (lc (i + k) j) A.r.width 0 A.xs.length u ∧ Lk.arr (i + k) j 1 A.r.width A.xs.length (lc (i + k) j) ∈ mu.an
   | _, _ => False
theorem tv {w0 : World} {mu : Mu} {c : Cz} {st : St} {a : Act} {w : World} (h : Rel w0 mu c st a w) {lc : Nat → Nat → Loc} : (ps : List AP) → (i : Nat) → (eg : List AV) → (vs : List Value) → ps.length = eg.length → ps.length = vs.length → Gh mu lc i ps eg vs → {x : aq (bU ps)} → {u : List Lb} → {r : List (Nat × Nat)} → s7 st i ps = some (x, u, r) →
   (∀ l ∈ u, l.real = true) ∧ ∃ tb : List (Lb × Lb), tb.map (·.1) = u ∧ (∀ p ∈ tb, p.2.kL = true) ∧ ∀ ρ : Lb → Option Lb, (∀ p ∈ tb, ρ p.1 = some p.2) → (∀ p ∈ r, ρ (.sp p.1 p.2) = none) → iR (c.map ρ) w lc i eg vs (mX ps x)
 | [], i, eg, vs, h1, h2, _, x, u, r, he => by
   injection he with he; injection he with e1 e2; injection e2 with e2 e3; subst e2 e3; have : eg = [] := by simpa using h1.symm
   subst this; exact ⟨by simp, [], rfl, by simp, fun _ _ _ => rfl⟩
 | p :: ps, i, [], vs, h1, _, _, _, _, _, _ => by simp at h1
 | p :: ps, i, _ :: _, [], _, h2, _, _, _, _, _ => by simp at h2
 | p :: ps, i, av :: eg, v :: vs, h1, h2, hl, x, u, r, he => by
   have xG : Gh mu lc (i + 1) ps eg vs := fun k p' KN v' e1 e2 e3 => by
     have := hl (k + 1) p' KN v' (by simpa using e1) (by simpa using e2) (by simpa using e3)
     rwa [show i + (k + 1) = i + 1 + k by omega] at this
   have h1' : ps.length = eg.length := by simpa using h1
   have h2' : ps.length = vs.length := by simpa using h2
   have h0 := hl 0 p av v rfl rfl rfl
   cases p with
   | val agg qs =>
     cases av with
     | val PT os =>
       obtain ⟨g1, tb, g2, g3, g4⟩ := tv h ps (i + 1) eg vs h1' h2' xG he; exact ⟨g1, tb, g2, g3, fun ρ hp hr => g4 ρ hp hr⟩
     | io _ => exact h0.elim
     | box _ => exact h0.elim
     | bW _ => exact h0.elim
   | io rr dd =>
     cases av with
     | val _ _ => exact h0.elim
     | box _ => exact h0.elim
     | bW _ => exact h0.elim
     | io A =>
       obtain ⟨q1, q2, q3⟩ := h0; simp only [Nat.add_zero] at q2 q3; unfold s7 at he; obtain ⟨q, hq, he⟩ := Option.bind_eq_some_iff.1 he; obtain ⟨p, hp, he⟩ := Option.map_eq_some_iff.1 he; obtain ⟨x2, u2, r2⟩ := q; obtain ⟨x1, u1, r1⟩ := p; injection he with e1 e2; injection e2 with e2 e3; subst e1 e2 e3; obtain ⟨g1, tb, g2, g3, g4⟩ := tv h ps (i + 1) eg vs h1' h2' xG hq; have PV := h.fw _ q3; have hV : fY c st w (.one (.ref i 0 1 .full)) v := ⟨q1, PV.1, fun A' ft => by
         obtain ⟨e1, e2, e3⟩ := PV.2 A' ft; rw [e1, e3]; show jJ (lc i 0) A.r.width 0 A'.xs.length v; rw [e2]; exact q2⟩
       obtain ⟨a1, a2, ta, a3, a4, a5⟩ := zH h i hV hp; obtain ⟨A', ft, XD⟩ : ∃ A', bl st i 0 1 = some A' ∧ ∃ xs, ck rr A'.xs = some xs ∧ x1.1 = xs := by
         have hp : (bif Nat.beq i i && (Nat.beq 0 0 && Nat.beq 1 1) then ((bl st i 0 1).bind fun A => bif A.own && A.md.is dd then (ck rr A.xs).map fun xs => ((xs, x2), [Lb.sp i 0], ([] : List (Nat × Nat))) else none) else none) = some (x1, u1, r1) := hp; obtain ⟨_, hp1⟩ := aH hp; obtain ⟨A', ft, hp2⟩ := Option.bind_eq_some_iff.1 hp1; obtain ⟨_, hp3⟩ := aH hp2; obtain ⟨xs, Rr, e⟩ := Option.map_eq_some_iff.1 hp3; injection e with e _; exact ⟨A', ft, xs, Rr, by rw [← e]⟩
       obtain ⟨xs, Rr, ex⟩ := XD; obtain ⟨e1, e2, e3⟩ := PV.2 A' ft; refine ⟨fun l hl => ?_, ta ++ tb, by simp [a3, g2], fun p hp => ?_, fun ρ hp hr => ?_⟩
       · rcases List.mem_append.1 hl with hl | hl
         · exact a2 l hl
         · exact g1 l hl
       · rcases List.mem_append.1 hp with hp | hp
         · exact a4 p hp
         · exact g3 p hp
       · have Wc := a5 ρ (fun p j3 => hp p (List.mem_append_left _ j3)) (fun p j3 => hr p (List.mem_append_left _ j3)); have fL := g4 ρ (fun p j3 => hp p (List.mem_append_right _ j3)) (fun p j3 => hr p (List.mem_append_right _ j3)); have Wc : OwnAt (c.map ρ) w (.cA i 0) (c.lc i 0) { r := rr, own := true, xs := x1.1, md := dd } v := Wc; rw [e3] at Wc; obtain ⟨er, M8⟩ := bA Rr; refine ⟨{ r := rr, own := true, xs := x1.1, md := dd }, mX ps x1.2, rfl, ?_, ?_, Wc, ?_⟩
         · show rr.width = A.r.width; rw [← er]; exact e1
         · show List.length (x1.1 : List (aq rr)) = A.xs.length; rw [ex, M8, ← e2]
           cases er
           rfl
         · have : x1.2 = x2 := a1; rw [this]; exact fL
   | bW qs =>
     cases av with
     | val _ _ => exact h0.elim
     | io _ => exact h0.elim
     | box _ => exact h0.elim
     | bW os =>
       obtain ⟨us, rfl, q1⟩ := h0; simp only [Nat.add_zero] at q1; unfold s7 at he; obtain ⟨q, hq, he⟩ := Option.bind_eq_some_iff.1 he; obtain ⟨p, hp, he⟩ := Option.map_eq_some_iff.1 he; obtain ⟨x2, u2, r2⟩ := q; obtain ⟨x1, u1⟩ := p; injection he with e1 e2; injection e2 with e2 e3; subst e1 e2 e3; obtain ⟨g1, tb, g2, g3, g4⟩ := tv h ps (i + 1) eg vs h1' h2' xG hq; obtain ⟨a1, a2, a3⟩ := j4 qs 0 (bU ps) x2 hp
       let f : Lb → Lb × Lb := fun l => (l, match l with | .sp x y => .cA x y | l => l)
       refine ⟨fun l hl => ?_, u1.map f ++ tb, ?_, fun p hp => ?_, fun ρ hp hr => ?_⟩
       · rcases List.mem_append.1 hl with hl | hl
         · obtain ⟨k, rfl⟩ := a2 l hl; rfl
         · exact g1 l hl
       · rw [List.map_append, List.map_map, g2]
         congr 1
         exact List.map_id u1
       · rcases List.mem_append.1 hp with hp | hp
         · obtain ⟨l, hl, rfl⟩ := List.mem_map.1 hp; obtain ⟨k, rfl⟩ := a2 l hl; rfl
         · exact g3 p hp
       · have fL := g4 ρ (fun p j3 => hp p (List.mem_append_right _ j3)) hr; refine ⟨(nh qs (bU ps) x1).1, mX ps (nh qs (bU ps) x1).2, rfl, ⟨us, rfl, fun j A hj => ?_⟩, by rw [a1]; exact fL⟩; obtain ⟨⟨r, dd, hqr⟩, u, b1, b2, b3, b4⟩ := q1 j A hj; obtain ⟨A', xs, c1, c2, cd, c3, c4, c5⟩ := a3 j r dd hqr; rw [Nat.zero_add] at c1 c5; obtain ⟨e1, e2, e3⟩ := (h.fw _ b4).2 A' c1; obtain ⟨er, M8⟩ := bA c3; have ha := xe h c1; have hρ : ρ (.sp i j) = some (.cA i j) := hp (.sp i j, .cA i j) (List.mem_append_left _ (List.mem_map.2 ⟨_, c5, rfl⟩)); have hw : r.width = A.r.width := by rw [← er]; exact e1
         have hn : xs.length = A.xs.length := by
           rw [← e2, M8]
           cases er
           rfl
         refine ⟨_, u, c4, b1, hw, hn, b2, ?_, rfl, ?_⟩
         · show jJ (lc i j) r.width 0 xs.length u; rw [hw, hn]; exact b3
         · show match lc i j with
             | .nil => xs = []
             | .at b off cap => _
           obtain ⟨rA, aj5, xsA, mdA⟩ := A'; simp only at er c2 cd; subst er c2 cd; have M8 : xs = xsA := M8; subst M8; unfold cz at ha; have e3 : c.lc i j = lc i j := e3; rw [e3] at ha
           cases jh : lc i j with
           | nil => rw [jh] at ha; exact ha
           | «at» b off cap =>
             rw [jh] at ha; obtain ⟨k0, k2, k3, k4⟩ := ha; exact ⟨(Cz.kR k0).trans hρ, k2, k3, k4.map hρ⟩
   | box FX qs =>
     cases av with
     | val _ _ => exact h0.elim
     | io _ => exact h0.elim
     | bW _ => exact h0.elim
     | box os =>
       obtain ⟨oK, q1, q2⟩ := h0; simp only [Nat.add_zero] at q2; unfold s7 at he; obtain ⟨q, hq, he⟩ := Option.bind_eq_some_iff.1 he; obtain ⟨p, hp, he⟩ := Option.map_eq_some_iff.1 he; obtain ⟨x2, u2, r2⟩ := q; obtain ⟨x1, u1, r1⟩ := p; injection he with e1 e2; injection e2 with e2 e3; subst e1 e2 e3; obtain ⟨g1, tb, g2, g3, g4⟩ := tv h ps (i + 1) eg vs h1' h2' xG hq; have PV := h.fw _ q2; have hV : fY c st w (.one (.ptr i 1 0)) v := ⟨by rw [q1]; rfl, PV.1, fun cs xF => by rw [PV.2 cs xF, q1]⟩; obtain ⟨a1, a2, ta, a3, a4, a5⟩ := zH h i hV hp; refine ⟨fun l hl => ?_, ta ++ tb, by simp [a3, g2], fun p hp => ?_, fun ρ hp hr => ?_⟩
       · rcases List.mem_append.1 hl with hl | hl
         · exact a2 l hl
         · exact g1 l hl
       · rcases List.mem_append.1 hp with hp | hp
         · exact a4 p hp
         · exact g3 p hp
       · have Wc := a5 ρ (fun p j3 => hp p (List.mem_append_left _ j3)) (fun p j3 => hr p (List.mem_append_left _ j3)); have fL := g4 ρ (fun p j3 => hp p (List.mem_append_right _ j3)) (fun p j3 => hr p (List.mem_append_right _ j3)); refine ⟨(ed qs (bU ps) x1).1, mX ps (ed qs (bU ps) x1).2, rfl, Wc, ?_⟩; have : (ed qs (bU ps) x1).2 = x2 := a1; rw [this]; exact fL
end Go.TM
namespace Go.TM
open Go Go.RowKit
def start (n : Nat) (ps : List AP) (x : aq (az (ps.map some))) : St := oF 0 (cY (ps.map some) x ++ List.replicate (n + 1 - ps.length) none)
theorem qO : (l : List (Option AP)) → (x : aq (az l)) → (cY l x).length = l.length
 | [], _ => rfl
 | none :: l, x => by
   show (cY l x).length + 1 = l.length + 1; rw [qO l x]
 | some p :: l, x => by
   show (cY l (p.av (az l) x).2).length + 1 = l.length + 1; rw [qO l _]
theorem xh {c : Cz} {w : World} {lc : Nat → Nat → Loc} : (ps : List AP) → (i : Nat) → (eg : List AV) → (vs : List Value) → {x : aq (az (ps.map some))} → fF ps eg = some x → x6 c w lc i eg vs →
   ps.length = eg.length ∧ ps.length = vs.length ∧ ∀ k av, (cY (ps.map some) x)[k]? = some (some av) → ∃ v, vs[k]? = some v ∧ sJ c w (i + k) (lc (i + k)) av v
 | [], i, [], vs, x, hx, h => by
   have : vs = [] := h; subst this; exact ⟨rfl, rfl, fun k av hk => by
     have hk : ([] : List (Option AV))[k]? = some (some av) := hk; simp at hk⟩
 | [], _, _ :: _, _, _, hx, _ => by simp [fF] at hx
 | _ :: _, _, [], _, _, hx, _ => by simp [fF] at hx
 | p :: ps, i, av :: eg, vs, x, hx, h => by
   obtain ⟨v, l, rfl, h1, h2⟩ := h; unfold fF at hx
   cases hy : fF ps eg with
   | none => simp [hy] at hx
   | some y =>
     simp only [hy] at hx; obtain ⟨g1, g2, g3⟩ := xh ps (i + 1) eg l hy h2; obtain ⟨q1, q2⟩ := HJ (c := c) (w := w) (i := i) (lc := lc i) hx; refine ⟨by simp [g1], by simp [g2], fun k KN hk => ?_⟩
     cases k with
     | zero =>
       have hk : some (some (p.av (az (ps.map some)) x).1) = some (some KN) := hk; simp only [Option.some.injEq] at hk; subst hk; exact ⟨v, rfl, q2 v h1⟩
     | succ k =>
       have hk : (cY (ps.map some) (p.av (az (ps.map some)) x).2)[k]? = some (some KN) := hk; rw [q1] at hk; obtain ⟨v', h3, h4⟩ := g3 k KN hk; exact ⟨v', by simpa using h3, by rw [show i + (k + 1) = i + 1 + k by omega]; exact h4⟩
def jK (lc : Nat → Loc) (i : Nat) : (j : Nat) → List OV → List Lk
 | _, [] => []
 | j, .own A :: os => .arr i j 1 A.r.width A.xs.length (lc j) :: jK lc i (j + 1) os
 | j, .int _ _ :: os => jK lc i (j + 1) os
 | j, .bool _ :: os => jK lc i (j + 1) os
 | j, .str _ :: os => jK lc i (j + 1) os
 | j, .shr _ _ :: os => jK lc i (j + 1) os
 | j, .mH _ _ :: os => jK lc i (j + 1) os
 | j, .fn _ _ _ :: os => jK lc i (j + 1) os
 | j, .eI :: os => jK lc i (j + 1) os
theorem zJ {lc : Nat → Loc} {i : Nat} : (os : List OV) → (j : Nat) → ∀ p ∈ jK lc i j os, ∃ k A, os[k]? = some (.own A) ∧ p = .arr i (j + k) 1 A.r.width A.xs.length (lc (j + k))
 | [], j, p, h => by simp [jK] at h
 | o :: os, j, p, h => by
   have rest : p ∈ jK lc i (j + 1) os → ∃ k A, (o :: os)[k]? = some (.own A) ∧ p = .arr i (j + k) 1 A.r.width A.xs.length (lc (j + k)) := by
     intro h; obtain ⟨k, A, h1, h2⟩ := zJ os (j + 1) p h; refine ⟨k + 1, A, by simpa using h1, ?_⟩; rw [h2, show j + 1 + k = j + (k + 1) by omega]
   cases o with
   | own A =>
     rcases List.mem_cons.1 h with h | h
     · exact ⟨0, A, rfl, h⟩
     · exact rest h
   | _ => exact rest h
theorem BG {lc : Nat → Loc} {i : Nat} : (os : List OV) → (j : Nat) → ∀ (k : Nat) (A : iN), os[k]? = some (.own A) → Lk.arr i (j + k) 1 A.r.width A.xs.length (lc (j + k)) ∈ jK lc i j os
 | [], j, k, A, h => by simp at h
 | o :: os, j, 0, A, h => by
   simp only [List.getElem?_cons_zero, Option.some.injEq] at h; subst h; exact List.mem_cons_self
 | o :: os, j, k + 1, A, h => by
   have := BG (lc := lc) (i := i) os (j + 1) k A (by simpa using h); rw [show j + 1 + k = j + (k + 1) by omega] at this
   cases o with
   | own A => exact List.mem_cons_of_mem _ this
   | _ => exact this
def Dm (lc : Nat → Nat → Loc) : (i : Nat) → List AV → List Value → List Lk
 | _, [], _ => []
 | _, _ :: _, [] => []
 | i, .val _ _ :: as, _ :: vs => Dm lc (i + 1) as vs
 | i, .io A :: as, _ :: vs => .arr i 0 1 A.r.width A.xs.length (lc i 0) :: Dm lc (i + 1) as vs
 | i, .bW os :: as, _ :: vs => jK (lc i) i 0 os ++ Dm lc (i + 1) as vs
 | i, .box _ :: as, v :: vs => .box i 1 (match v with | .pointer (some ad) => ad.block | _ => 0) :: Dm lc (i + 1) as vs
theorem tw {lc : Nat → Nat → Loc} : (i : Nat) → (as : List AV) → (vs : List Value) → ∀ p ∈ Dm lc i as vs, ∃ k av v, as[k]? = some av ∧ vs[k]? = some v ∧ ((∃ A, av = .io A ∧ p = .arr (i + k) 0 1 A.r.width A.xs.length (lc (i + k) 0)) ∨ (∃ os, av = .box os ∧ p = .box (i + k) 1 (match v with | .pointer (some ad) => ad.block | _ => 0)) ∨ ∃ os j A, av = .bW os ∧ os[j]? = some (.own A) ∧ p = .arr (i + k) j 1 A.r.width A.xs.length (lc (i + k) j))
 | _, [], _, p, h => by simp [Dm] at h
 | _, _ :: _, [], p, h => by simp [Dm] at h
 | i, .val _ _ :: as, _ :: vs, p, h => by
   obtain ⟨k, av, v, h1, h2, h3⟩ := tw (i + 1) as vs p h; exact ⟨k + 1, av, v, by simpa using h1, by simpa using h2, by rw [show i + (k + 1) = i + 1 + k by omega]; exact h3⟩
 | i, .io A :: as, v0 :: vs, p, h => by
   rcases List.mem_cons.1 h with h | h
   · exact ⟨0, .io A, v0, rfl, rfl, .inl ⟨A, rfl, h⟩⟩
   · obtain ⟨k, av, v, h1, h2, h3⟩ := tw (i + 1) as vs p h; exact ⟨k + 1, av, v, by simpa using h1, by simpa using h2, by rw [show i + (k + 1) = i + 1 + k by omega]; exact h3⟩
 | i, .box os :: as, v0 :: vs, p, h => by
   rcases List.mem_cons.1 h with h | h
   · exact ⟨0, .box os, v0, rfl, rfl, .inr (.inl ⟨os, rfl, h⟩)⟩
   · obtain ⟨k, av, v, h1, h2, h3⟩ := tw (i + 1) as vs p h; exact ⟨k + 1, av, v, by simpa using h1, by simpa using h2, by rw [show i + (k + 1) = i + 1 + k by omega]; exact h3⟩
 | i, .bW os :: as, v0 :: vs, p, h => by
   rcases List.mem_append.1 h with h | h
   · obtain ⟨j, A, h1, h2⟩ := zJ os 0 p h; rw [Nat.zero_add] at h2; exact ⟨0, .bW os, v0, rfl, rfl, .inr (.inr ⟨os, j, A, rfl, h1, h2⟩)⟩
   · obtain ⟨k, av, v, h1, h2, h3⟩ := tw (i + 1) as vs p h; exact ⟨k + 1, av, v, by simpa using h1, by simpa using h2, by rw [show i + (k + 1) = i + 1 + k by omega]; exact h3⟩
theorem KR {lc : Nat → Nat → Loc} : (i : Nat) → (as : List AV) → (vs : List Value) → as.length = vs.length → ∀ k av v, as[k]? = some av → vs[k]? = some v → (∀ A, av = .io A → Lk.arr (i + k) 0 1 A.r.width A.xs.length (lc (i + k) 0) ∈ Dm lc i as vs) ∧ (∀ os, av = .box os → Lk.box (i + k) 1 (match v with | .pointer (some ad) => ad.block | _ => 0) ∈ Dm lc i as vs) ∧ (∀ os, av = .bW os → ∀ j A, os[j]? = some (.own A) → Lk.arr (i + k) j 1 A.r.width A.xs.length (lc (i + k) j) ∈ Dm lc i as vs)
 | _, [], _, _, k, av, v, h, _ => by simp at h
 | _, _ :: _, [], hn, _, _, _, _, _ => by simp at hn
 | i, a0 :: as, v0 :: vs, hn, 0, av, v, h1, h2 => by
   simp only [List.getElem?_cons_zero, Option.some.injEq] at h1 h2; subst h1 h2; refine ⟨fun A e => ?_, fun os e => ?_, fun os e j A hj => ?_⟩
   · subst e; exact List.mem_cons_self
   · subst e; exact List.mem_cons_self
   · subst e; have := BG (lc := lc i) (i := i) os 0 j A hj; rw [Nat.zero_add] at this; exact List.mem_append_left _ this
 | i, a0 :: as, v0 :: vs, hn, k + 1, av, v, h1, h2 => by
   obtain ⟨g1, g2, g3⟩ := KR (i + 1) as vs (by simpa using hn) k av v (by simpa using h1) (by simpa using h2); have e : i + (k + 1) = i + 1 + k := by omega
   rw [e]
   cases a0 with
   | val _ _ => exact ⟨g1, g2, g3⟩
   | io _ => exact ⟨fun A h => List.mem_cons_of_mem _ (g1 A h), fun os h => List.mem_cons_of_mem _ (g2 os h), fun os h j A hj => List.mem_cons_of_mem _ (g3 os h j A hj)⟩
   | box _ => exact ⟨fun A h => List.mem_cons_of_mem _ (g1 A h), fun os h => List.mem_cons_of_mem _ (g2 os h), fun os h j A hj => List.mem_cons_of_mem _ (g3 os h j A hj)⟩
   | bW _ => exact ⟨fun A h => List.mem_append_right _ (g1 A h), fun os h => List.mem_append_right _ (g2 os h), fun os h j A hj => List.mem_append_right _ (g3 os h j A hj)⟩
def mJ (ps : List AP) (mu : Mu) : Prop :=
 ∀ p ∈ mu.an, (∃ i r W n l, p = .arr i 0 1 W n l ∧ ∃ d, ps[i]? = some (.io r d)) ∨ (∃ i oK b qs, p = .box i 1 oK ∧ ps[i]? = some (.box b qs)) ∨ ∃ i j W n l qs, p = .arr i j 1 W n l ∧ ps[i]? = some (.bW qs)
theorem Dn : (ps : List OP) → (t : RT) → (os : List OV) → (y : aq t) → {x : aq (my ps t)} → dW ps t os y = some x → ∀ (j : Nat) (A : iN), os[j]? = some (.own A) → (∃ r d, ps[j]? = some (.own r d)) ∧ ∃ B : iN, (ed ps t x).1[j]? = some (.own B) ∧ B.r.width = A.r.width ∧ B.xs.length = A.xs.length
 | [], t, [], y, x, h => by intro k A hk; simp at hk
 | [], _, _ :: _, _, _, h => by simp [dW] at h
 | _ :: _, _, [], _, _, h => by simp [dW] at h
 | p :: ps, t, o :: os, y, x, h => by
   unfold dW at h
   cases h1 : rN p o with
   | none => simp [h1] at h
   | some a =>
     cases h2 : dW ps t os y with
     | none => simp [h1, h2] at h
     | some z =>
       simp only [h1, h2] at h; have h : (a, z) = x := Option.some.inj h; subst h; intro j A hj
       cases j with
       | succ j =>
         obtain ⟨⟨r, d, q1⟩, B, q2, q3⟩ := Dn ps t os y h2 j A (by simpa using hj); exact ⟨⟨r, d, by simpa using q1⟩, B, (by show (ed ps t z).1[j]? = _; exact q2), q3⟩
       | zero =>
         simp only [List.getElem?_cons_zero, Option.some.injEq] at hj; subst hj
         cases p with
         | own r d =>
           have h1 : (bif A.md.is d then ck r A.xs else none) = some a := h1; obtain ⟨_, h1⟩ := aH h1; obtain ⟨er, M8⟩ := bA h1; refine ⟨⟨r, d, rfl⟩, { r := r, own := true, xs := a, md := d }, rfl, by show r.width = _; rw [← er], ?_⟩; show List.length (a : List (aq r)) = _; rw [M8]
           cases er
           rfl
         | _ => cases h1
theorem BH : (ps : List AP) → (eg : List AV) → {x : aq (az (ps.map some))} → fF ps eg = some x → ∀ (k : Nat) (av : AV), eg[k]? = some av → ∃ p : AP, ps[k]? = some p ∧ match p, av with
   | .io _ _, .io A => ∃ B : iN, (cY (ps.map some) x)[k]? = some (some (.io B)) ∧ B.r.width = A.r.width ∧ B.xs.length = A.xs.length
   | .box _ _, .box _ => True
   | .val _ _, .val _ _ => True
   | .bW qs, .bW os => ∃ zw : List OV, (cY (ps.map some) x)[k]? = some (some (AV.bW zw)) ∧ ∀ (j : Nat) (A : iN), os[j]? = some (OV.own A) → (∃ r d, qs[j]? = some (OP.own r d)) ∧ ∃ B : iN, zw[j]? = some (OV.own B) ∧ B.r.width = A.r.width ∧ B.xs.length = A.xs.length
   | _, _ => False
 | [], [], _, _ => by intro k av h; simp at h
 | [], _ :: _, _, hx => by simp [fF] at hx
 | _ :: _, [], _, hx => by simp [fF] at hx
 | p :: ps, av :: eg, x, hx => by
   unfold fF at hx
   cases hy : fF ps eg with
   | none => simp [hy] at hx
   | some y =>
     simp only [hy] at hx; have e2 : (p.av (az (ps.map some)) x).2 = y := (HJ (c := ⟨fun _ => 0, fun _ _ => .nil, fun _ => none⟩) (w := default) (i := 0) (lc := fun _ => .nil) hx).1; intro k KN hk
     cases k with
     | zero =>
       simp only [List.getElem?_cons_zero, Option.some.injEq] at hk; subst hk; refine ⟨p, rfl, ?_⟩
       cases p with
       | val agg qs => cases av with
         | val _ _ => trivial
         | io _ => cases agg <;> cases hx
         | box _ => cases agg <;> cases hx
         | bW _ => cases agg <;> cases hx
       | io r d => cases av with
         | val _ _ => cases hx
         | box _ => cases hx
         | bW _ => cases hx
         | io A =>
           have hx : (bif A.md.is d then (match ck r A.xs with | some xs => some ((xs, y) : aq (.cons (.sl r) (az (ps.map some)))) | none => none) else none) = some x := hx; obtain ⟨_, hx⟩ := aH hx
           cases hc : ck r A.xs with
           | none => rw [hc] at hx; cases hx
           | some xs =>
             rw [hc] at hx; injection hx with hx; obtain ⟨er, M8⟩ := bA hc; refine ⟨{ r := r, own := true, xs := x.1, md := d }, rfl, by show r.width = _; rw [← er], ?_⟩; show List.length (x.1 : List (aq r)) = _; rw [← hx]; show xs.length = _; rw [M8]
             cases er
             rfl
       | box b qs => cases av with
         | val _ _ => cases hx
         | io _ => cases hx
         | bW _ => cases hx
         | box _ => trivial
       | bW qs => cases av with
         | val _ _ => cases hx
         | io _ => cases hx
         | box _ => cases hx
         | bW os =>
           have hx : dW qs (az (ps.map some)) os y = some x := hx; exact ⟨_, rfl, Dn qs _ os y hx⟩
     | succ k =>
       obtain ⟨p', h1, h2⟩ := BH ps eg hy k KN (by simpa using hk); refine ⟨p', by simpa using h1, ?_⟩; have eh : (cY ((p :: ps).map some) x)[k + 1]? = (cY (ps.map some) y)[k]? := by
         show (cY (ps.map some) (p.av (az (ps.map some)) x).2)[k]? = _; rw [e2]
       cases p' <;> cases KN <;> simp only at h2 ⊢ <;> (try exact h2)
       · obtain ⟨B, q1, q2, q3⟩ := h2; exact ⟨B, eh.trans q1, q2, q3⟩
       · obtain ⟨zw, q1, q2⟩ := h2; exact ⟨zw, eh.trans q1, q2⟩
end Go.TM
namespace Go.TM
open Go Go.RowKit
theorem HK {P : Program} {fn : Func} {tm : Array Value} {w : World} {vals : List Value} (h : (fn.results.toList.mapM (Dl tm)).run P w = .ok vals w) :
   (results fn tm).run P w = .ok (if hs : vals.toArray.size = 1 then vals.toArray[0] else .tuple vals.toArray) w := by
 have e : results fn tm = (do let vs ← fn.results.mapM (Dl tm); pure (if h : vs.size = 1 then vs[0] else .tuple vs) : Sem Value) := rfl; rw [e, Array.mapM_eq_mapM_toList]; simp [Sem.run_bind, h]
theorem HL {c : Cz} {w : World} {mu : Mu} {lc : Nat → Nat → Loc} {eg : List AV} {args : Array Value} (hH : Handed c w mu) (hA : x6 c w lc 0 eg args.toList) {ps : List AP} {x : aq (az (ps.map some))} (hx : fF ps eg = some x) {n : Nat} (hn : ps.length ≤ n) :
   ∃ (Cr : Mu) (c' : Cz), Cr.m = mu.m ∧ Cr.ok = mu.ok ∧ mJ ps Cr ∧ Gh Cr lc 0 ps eg args.toList ∧ args.size = ps.length ∧ eg.length = ps.length ∧
     Rel w Cr c' (start n ps x) { tmps := args ++ Array.replicate (n - args.size) undef, defers := [] } w := by
 obtain ⟨l1, l2, hold⟩ := xh ps 0 eg args.toList hx hA; have N6 := BH ps eg hx; have Dp : args.size = ps.length := by rw [l2]; simp
 let a : Act := { tmps := args ++ Array.replicate (n - args.size) undef, defers := [] }
 have Rs : ∀ k v, args.toList[k]? = some v → a.eval (.tmp k) = v := by
   intro k v hk; have dm : k < args.size := by
     have := (List.getElem?_eq_some_iff.1 hk).1; simpa using this
   show (args ++ Array.replicate (n - args.size) undef).getD k undef = v; rw [Array.getD_eq_getD_getElem?, Array.getElem?_append_left dm]; rw [Array.getElem?_toList] at hk; rw [hk]; rfl
 let Cr : Mu := { m := mu.m, ok := mu.ok, an := Dm lc 0 eg args.toList }
 have hlen : (cY (ps.map some) x ++ List.replicate (n + 1 - ps.length) none).length = n + 1 := by
   rw [List.length_append, qO]; simp; omega
 have Hf : ∀ (i : Nat) (av : AV), (cY (ps.map some) x ++ List.replicate (n + 1 - ps.length) none)[i]? = some (some av) → (cY (ps.map some) x)[i]? = some (some av) := by
   intro i av hi
   by_cases h : i < (cY (ps.map some) x).length
   · rwa [List.getElem?_append_left h] at hi
   · rw [List.getElem?_append_right (by omega), List.getElem?_replicate] at hi
     split at hi <;> simp at hi
 have AQ : By w Cr c w := ⟨fun b l hb => ⟨hH.lt b l hb, (hH.lb b l hb).imp id fun hh => .inr ((hH.m b).2 ⟨l, hb, hh⟩)⟩, fun b _ hb => .inr ((hH.ok b).2 hb), ⟨rfl, rfl, rfl, Nat.le_refl _⟩, fun _ _ _ => rfl⟩; have Sz : AR c w lc a 0 (cY (ps.map some) x ++ List.replicate (n + 1 - ps.length) none) := by
   intro i av hi; obtain ⟨v, h1, h2⟩ := hold i av (Hf i av hi); have := Rs i v h1; rw [Nat.zero_add] at h2 ⊢; rw [this]; exact h2
 have Rt : ∀ k av v, eg[k]? = some av → args.toList[k]? = some v → sJ c w k (lc k) av v := by
   have key : ∀ (eg : List AV) (i : Nat) (vs : List Value), x6 c w lc i eg vs → ∀ k av v, eg[k]? = some av → vs[k]? = some v → sJ c w (i + k) (lc (i + k)) av v := by
     intro eg
     induction eg with
     | nil => intro i vs _ k av v h; simp at h
     | cons a0 eg ih =>
       intro i vs h k av v h1 h2; obtain ⟨v0, l, rfl, g1, g2⟩ := h
       cases k with
       | zero => simp at h1 h2; subst h1 h2; exact g1
       | succ k =>
         have := ih (i + 1) l g2 k av v (by simpa using h1) (by simpa using h2)
         rwa [show i + 1 + k = i + (k + 1) by omega] at this
   intro k av v h1 h2; have := key eg 0 args.toList hA k av v h1 h2
   rwa [Nat.zero_add] at this
 have XE : ∀ p ∈ Cr.an, N0 (cY (ps.map some) x ++ List.replicate (n + 1 - ps.length) none) lc a p := by
   intro p hp; obtain ⟨k, av, v, h1, h2, h3⟩ := tw 0 eg args.toList p hp; have hk : k < ps.length := by rw [l1]; exact (List.getElem?_eq_some_iff.1 h1).1
   simp only [Nat.zero_add] at h3; obtain ⟨p', q1, q2⟩ := N6 k av h1; rcases h3 with ⟨A, rfl, rfl⟩ | ⟨os, rfl, rfl⟩ | ⟨os, j, A, rfl, hj, rfl⟩
   · refine ⟨rfl, by rw [hlen]; omega, fun KN SA => .inl ?_⟩
     cases p' with
     | io r dd =>
       obtain ⟨B, e1, e2, e3⟩ := q2; have := Hf k KN SA; rw [e1] at this; simp only [Option.some.injEq] at this; exact ⟨B, this.symm, fun _ => ⟨e2, e3, rfl⟩⟩
     | val _ _ => exact q2.elim
     | box _ _ => exact q2.elim
     | bW _ => exact q2.elim
   · refine ⟨rfl, by rw [hlen]; omega, fun zw _ => ?_⟩; obtain ⟨oK, vs, ty, e1, _⟩ := Rt k _ v h1 h2; rw [Rs k v h2, e1]
   · refine ⟨rfl, by rw [hlen]; omega, fun KN SA => .inr ?_⟩
     cases p' with
     | io r dd => exact q2.elim
     | val _ _ => exact q2.elim
     | box _ _ => exact q2.elim
     | bW qs =>
       obtain ⟨zw, e1, e2⟩ := q2; have := Hf k KN SA; rw [e1] at this; simp only [Option.some.injEq] at this; obtain ⟨_, B, e3, e4, e5⟩ := e2 j A hj; refine ⟨zw, this.symm, fun A' ft => ?_⟩; rw [e3] at ft; injection ft with ft; injection ft with ft; subst ft; exact ⟨e4, e5, rfl⟩
 obtain ⟨c', hR⟩ := Rel.KP (a := a) AQ rfl Sz XE; refine ⟨Cr, c', rfl, rfl, fun p hp => ?_, fun k p av v h0 h1 h2 => ?_, Dp, l1.symm, hR⟩
 · obtain ⟨k, av, v, h1, h2, h3⟩ := tw 0 eg args.toList p hp; simp only [Nat.zero_add] at h3; obtain ⟨p', q1, q2⟩ := N6 k av h1; rcases h3 with ⟨A, rfl, rfl⟩ | ⟨os, rfl, rfl⟩ | ⟨os, j, A, rfl, hj, rfl⟩
   · cases p' with
     | io r dd => exact .inl ⟨k, r, _, _, _, rfl, dd, q1⟩
     | val _ _ => exact q2.elim
     | box _ _ => exact q2.elim
     | bW _ => exact q2.elim
   · cases p' with
     | io r dd => exact q2.elim
     | val _ _ => exact q2.elim
     | box b qs => exact .inr (.inl ⟨k, _, b, qs, rfl, q1⟩)
     | bW _ => exact q2.elim
   · cases p' with
     | io r dd => exact q2.elim
     | val _ _ => exact q2.elim
     | box b qs => exact q2.elim
     | bW qs => exact .inr (.inr ⟨k, j, _, _, _, qs, rfl, q1⟩)
 · obtain ⟨p', q1, q2⟩ := N6 k av h1; rw [h0] at q1
   cases q1
   have hh := Rt k av v h1 h2; obtain ⟨a1, a2, a3⟩ := KR (lc := lc) 0 eg args.toList (by rw [← l1, l2]) k av v h1 h2; rw [Nat.zero_add] at a1 a2 a3 ⊢
   cases p with
   | val _ _ => cases av with
     | val _ _ => trivial
     | io _ => exact q2.elim
     | box _ => exact q2.elim
     | bW _ => exact q2.elim
   | bW qs => cases av with
     | val _ _ => exact q2.elim
     | io _ => exact q2.elim
     | box _ => exact q2.elim
     | bW os =>
       obtain ⟨us, rfl, hl, NQ⟩ := hh; obtain ⟨zw, _, e2⟩ := q2; obtain ⟨n1, _⟩ := bT.NZ os 0 _ hl; refine ⟨us, rfl, fun j A hj => ⟨(e2 j A hj).1, ?_⟩⟩; have dm : j < us.toList.length := by rw [n1]; exact (List.getElem?_eq_some_iff.1 hj).1
       have hO : OwnAt c w (.cA k j) (lc k j) A us.toList[j] := NQ j _ _ hj (List.getElem?_eq_getElem dm); exact ⟨_, List.getElem?_eq_getElem dm, hO.1, hO.2.1, a3 os rfl j A hj⟩
   | io r dd => cases av with
     | val _ _ => exact q2.elim
     | box _ => exact q2.elim
     | bW _ => exact q2.elim
     | io A =>
       have hO : OwnAt c w (.cA k 0) (lc k 0) A v := hh; exact ⟨hO.1, hO.2.1, a1 A rfl⟩
   | box _ _ => cases av with
     | val _ _ => exact q2.elim
     | io _ => exact q2.elim
     | bW _ => exact q2.elim
     | box os =>
       obtain ⟨oK, vs, ty, e1, _⟩ := hh; refine ⟨oK, e1, ?_⟩; have := a2 os rfl; rw [e1] at this; exact this
theorem Jo {P : Program} {T : lZ} (hT : gX P T) {w0 : World} {mu Cr : Mu} (hm : Cr.m = mu.m) (gI : Cr.ok = mu.ok) {c : Cz} {st : St} {a : Act} {w : World} (h : Rel w0 Cr c st a w) {fn : Func} {ps : List AP} {rs : List RP} (Xf : x9 T a.tmps fn.results.toList rs)
   {lc : Nat → Nat → Loc} {eg : List AV} {vs : List Value} (h1 : ps.length = eg.length) (h2 : ps.length = vs.length) (hl : Gh Cr lc 0 ps eg vs) {e : Ex} {y : aq (dj rs (bU ps))} (hf : Ci rs ps e st = some y) :
   (e = .normal ∨ e = .ret) ∧ ∃ v, (results fn a.tmps).run P w = .ok v w ∧ ∃ c', By w0 mu c' w ∧ rJ c' w (gv rs (bU ps) y).1 v ∧ iR c' w lc 0 eg vs (mX ps (gv rs (bU ps) y).2) := by
 have he : e = .normal ∨ e = .ret := by
   cases e with
   | normal => exact .inl rfl
   | ret => exact .inr rfl
   | exit m => cases hf
 refine ⟨he, ?_⟩; have hf : ((s7 st 0 ps).bind fun x => (Dk st rs (bU ps) x.1).bind fun q => bif ub (cq q.2.1 ++ x.2.1) && apart (cq q.2.1 ++ x.2.1) (q.2.2 ++ x.2.2) then some q.1 else none) = some y := by
   rcases he with rfl | rfl <;> exact hf
 obtain ⟨qx, hqx, hf⟩ := Option.bind_eq_some_iff.1 hf; obtain ⟨qr, hqr, hf⟩ := Option.bind_eq_some_iff.1 hf; obtain ⟨ql, hy⟩ := aH hf; injection hy with hy; obtain ⟨x1, u1, r1⟩ := qx; obtain ⟨x2, u2, r2⟩ := qr; subst hy; rw [Bool.and_eq_true] at ql; obtain ⟨a1, tb, a2, a3, a4⟩ := tv h ps 0 eg vs h1 h2 hl hqx; obtain ⟨b1, b2, b3, vals, b4, b5, b6⟩ := Fq hT h fn.results.toList rs Xf (bU ps) x1 hqr; have BC : ∀ l ∈ cq u2 ++ u1, l.real = true := fun l hl => (List.mem_append.1 hl).elim (b3 l) (a1 l)
 have Lt := pe _ BC ql.1; have EH : ∀ p ∈ r2 ++ r1, Lb.sp p.1 p.2 ∉ cq u2 ++ u1 := by
   intro p hp hm; have h1 := List.all_eq_true.1 ql.2 p hp; have h2 := List.all_eq_true.1 h1 _ hm; rw [(Lb.zx rfl).2 rfl] at h2
   cases h2
 let tab := zA .jc 0 u2 ++ tb
 have XF : tab.map (·.1) = cq u2 ++ u1 := by show (zA .jc 0 u2 ++ tb).map _ = _; rw [List.map_append, zB, a2]
 have sy := Classical.propDecidable
 let ρ : Lb → Option Lb := fun l => match look tab l with | some y => some y | none => if l = .out then some .out else none
 have hρt : ∀ p ∈ tab, ρ p.1 = some p.2 := by
   intro p hp; have := zy tab (by rw [XF]; exact Lt) hp; show (match look tab p.1 with | some y => some y | none => _) = _; rw [this]
 have zD : ∀ {l y}, look tab l = some y → l ∈ cq u2 ++ u1 := by
   intro l y hl; have := xf tab hl; rw [← XF]; exact List.mem_map.2 ⟨_, this, rfl⟩
 have hρr : ∀ p ∈ r2 ++ r1, ρ (.sp p.1 p.2) = none := by
   intro p hp; show (match look tab (.sp p.1 p.2) with | some y => some y | none => if Lb.sp p.1 p.2 = .out then some Lb.out else none) = none
   cases hl : look tab (.sp p.1 p.2) with
   | some y => exact absurd (zD hl) (EH p hp)
   | none => simp
 have hρo : ρ .out = some .out := by
   show (match look tab Lb.out with | some y => some y | none => if Lb.out = Lb.out then some Lb.out else none) = _
   cases hl : look tab Lb.out with
   | some y => have := BC _ (zD hl); cases this
   | none => simp
 have AQ : By w0 mu (c.map ρ) w := by
   refine ⟨fun b l hb => ?_, fun b hb hn => ?_, h.kept, by rw [← hm]; exact h.old⟩
   · obtain ⟨k, hk, e⟩ := Cz.map_some hb; obtain ⟨g1, g2⟩ := h.owned b k hk; refine ⟨g1, ?_⟩; rw [← hm]; refine g2.imp (fun e2 => ?_) id; subst e2; rw [hρo] at e
     cases e; rfl
   · rw [← hm, ← gI]
     cases hk : c.own b with
     | none => exact h.free b hb hk
     | some k =>
       have e : ρ k = none := (Cz.kR (ρ := ρ) hk).symm.trans hn; rcases (h.owned b k hk).2 with g | g | g
       · subst g; rw [hρo] at e; cases e
       · exact absurd g (Nat.not_le_of_lt hb)
       · exact .inl g
 have hX := a4 ρ (fun p hp => hρt p (List.mem_append_right _ hp)) (fun p hp => hρr p (List.mem_append_right _ hp)); have hR := b6 ρ 0 (fun k l hk => by
   have := hρt _ (List.mem_append_left tb (wo .jc 0 u2 k l hk)); exact this) (fun p hp => hρr p (List.mem_append_left _ hp))
 refine ⟨_, HK b4, c.map ρ, AQ, ?_, by rw [b1]; exact hX⟩; have hlen : vals.length = (gv rs (bU ps) x2).1.length := by
   have : rs.length = fn.results.toList.length := by
     have key : ∀ (l : List ResultVar) (m : List RP), x9 T a.tmps l m → m.length = l.length := by
       intro l
       induction l with
       | nil => intro m hm; cases m with
         | nil => rfl
         | cons _ _ => exact hm.elim
       | cons v l ih => intro m hm; cases m with
         | nil => exact hm.elim
         | cons r m => simp [ih m hm.2]
     exact key _ _ Xf
   rw [b5, b2, this]
 by_cases hs : vals.toArray.size = 1
 · rw [dif_pos hs]; have zj : vals.length = 1 := by simpa using hs
   obtain ⟨v, rfl⟩ : ∃ v, vals = [v] := by
     cases vals with
     | nil => cases zj
     | cons v l => cases l with
       | nil => exact ⟨v, rfl⟩
       | cons _ _ => simp at zj
   rw [zj] at hlen
   cases ho : (gv rs (bU ps) x2).1 with
   | nil => rw [ho] at hlen; cases hlen
   | cons r l => cases l with
     | cons _ _ => rw [ho] at hlen; simp at hlen
     | nil =>
       rw [ho] at hR; exact .inl ⟨r, rfl, hR⟩
 · rw [dif_neg hs]; refine .inr ⟨by rw [← hlen]; simpa using hs, vals.toArray, rfl, by simpa using hR⟩
theorem HM {P : Program} {T : lZ} (hT : gX P T) (hE : xq P T) {S : kK} (hS : ma P S) {D : kP} {f : FuncId} {fn : Func} {code : Code} {n : Nat} {ps : List AP} {rs : List RP} {L : nc (aq (dj rs (bU ps)))} {Ru : Nat → Array Oper → Prop}
   {t : aq (az (ps.map some)) → Option (aq (dj rs (bU ps)))}
   (hf : P.funcs[f]? = some fn) (hb : fn.body = some code) (hn : fn.ntmps = n) (PE : ps.length ≤ n) (vP : fM n code = true) (CU : ∀ tm, x9 T tm fn.results.toList rs)
   (hL : ∀ (w0 : World) (mu : Mu) (y : aq (dj rs (bU ps))), mJ ps mu → ej (mT P w0 mu n L y) code)
   (hD : ∀ (w0 : World) (mu : Mu), rj (aq (dj rs (bU ps))) P T S D w0 mu n Ru) (XG : eN Ru code)
   (Jp : ∀ (w0 : World) (mu : Mu) (c : Cz) (a : Act) (w : World) x, Rel w0 mu c (start n ps x) a w → a.tmps.size = n → ∃ c2 il, Rel w0 mu c2 il a w ∧ fD T S D L code il (Ci rs ps) = t x) : FnOk P f (mA ps rs t) := by
 intro c w mu lc eg args A y hH hA hs ho; unfold mA at hs
 cases hx : fF ps eg with
 | none => rw [hx] at hs; cases hs
 | some x =>
   rw [hx] at hs; simp only [Option.some.injEq] at hs; subst hs; have Cs : t x = some y := ho; obtain ⟨Cr, c', hm, gI, Dq, KS, Dp, LQ, hR⟩ := HL hH hA hx PE; refine calls_of_wp hf hb ?_; rw [hn]; have mm : (args ++ Array.replicate (n - args.size) undef).size = n := by simp; omega
   obtain ⟨c2, il, hR2, XH⟩ := Jp w Cr c' _ w x hR mm; refine zv (nI hT hE hS w Cr n) (hD w Cr) code vP (hL w Cr y Dq) XG (fun {e} {c1} {AD} {a1} {w1} h1 h2 h3 => ?_) hR2 mm (XH.trans Cs); obtain ⟨he, v, pJ, c2, LM, hV, hX⟩ := Jo (P := P) hT hm gI h1 (CU a1.tmps) LQ.symm (by rw [← Dp]; simp) KS h3; have De : a1.defers = [] ∧ ∃ v, (results fn a1.tmps).run P w1 = .ok v w1 ∧ (∃ v', Ending.returned v = .returned v' ∧ ∃ c', By w mu c' w1 ∧ rJ c' w1 (gv rs (bU ps) y).1 v' ∧ iR c' w1 lc 0 eg args.toList (mX ps (gv rs (bU ps) y).2)) :=
     ⟨h1.plain, v, pJ, v, rfl, c2, LM, hV, hX⟩
   rcases he with rfl | rfl <;> exact De
theorem XI {P : Program} {T : lZ} (hT : gX P T) (hE : xq P T) {S : kK} (hS : ma P S) {D : kP} {f : FuncId} {fn : Func} {code : Code} {n : Nat} {ps : List AP} {rs : List RP} {L : nc (aq (dj rs (bU ps)))} {Ru : Nat → Array Oper → Prop}
   {t : aq (az (ps.map some)) → Option (aq (dj rs (bU ps)))}
   (hf : P.funcs[f]? = some fn) (hb : fn.body = some code) (hn : fn.ntmps = n) (PE : ps.length ≤ n) (vP : fM n code = true) (CU : ∀ tm, x9 T tm fn.results.toList rs)
   (hL : ∀ (w0 : World) (mu : Mu) (y : aq (dj rs (bU ps))), mJ ps mu → ej (mT P w0 mu n L y) code)
   (hD : ∀ (w0 : World) (mu : Mu), rj (aq (dj rs (bU ps))) P T S D w0 mu n Ru) (XG : eN Ru code)
   (Jp : ∀ x, fD T S D L code (start n ps x) (Ci rs ps) = t x) : FnOk P f (mA ps rs t) :=
 HM hT hE hS hf hb hn PE vP CU hL hD XG (fun _ _ c _ _ x h _ => ⟨c, _, h, Jp x⟩)
end Go.TM
namespace Go.TM
open Go Go.RowKit
def iter {X E : Type} (round : X → Option (Sum X E)) : Nat → X → Option E
 | 0, _ => none
 | n + 1, x => match round x with
   | some (.inl y) => iter round n y
   | some (.inr e) => some e
   | none => none
theorem AS {X E : Type} {round : X → Option (Sum X E)} : (n : Nat) → {x : X} → {e : E} → iter round n x = some e → ∀ m, n ≤ m → iter round m x = some e
 | 0, _, _, h, _, _ => by cases h
 | n + 1, x, e, h, 0, hm => by omega
 | n + 1, x, e, h, m + 1, hm => by
   unfold iter at h ⊢
   cases hr : round x with
   | none => rw [hr] at h; cases h
   | some z => cases z with
     | inl y => rw [hr] at h; exact AS n h m (by omega)
     | inr e' => rw [hr] at h; exact h
noncomputable def aE {X E : Type} (round : X → Option (Sum X E)) (x : X) : Option E :=
 have := Classical.propDecidable (∃ e n, iter round n x = some e)
 if h : ∃ e n, iter round n x = some e then some (Classical.choose h) else none
theorem Ds {X E : Type} {round : X → Option (Sum X E)} {x : X} {e : E} {n : Nat} (h : iter round n x = some e) : aE round x = some e := by
 have hex : ∃ e n, iter round n x = some e := ⟨e, n, h⟩; unfold aE; simp only; rw [dif_pos hex]; obtain ⟨m, hm⟩ := Classical.choose_spec hex; have h1 := AS m hm (max m n) (Nat.le_max_left _ _); have h2 := AS n h (max m n) (Nat.le_max_right _ _); rw [h1] at h2; exact h2
theorem ur {X E : Type} {round : X → Option (Sum X E)} {x : X} {e : E} (h : aE round x = some e) : ∃ n, iter round n x = some e := by
 unfold aE at h; simp only at h
 split at h
 · rename_i hex; injection h with h; rw [← h]; exact Classical.choose_spec hex
 · cases h
theorem kg {X E : Type} (round : X → Option (Sum X E)) (x : X) : aE round x = match round x with | some (.inl y) => aE round y | some (.inr e) => some e | none => none := by
 cases hr : round x with
 | none =>
   cases h : aE round x with
   | none => rfl
   | some e =>
     obtain ⟨n, hn⟩ := ur h
     cases n with
     | zero => cases hn
     | succ n => unfold iter at hn; rw [hr] at hn; cases hn
 | some z => cases z with
   | inr e => exact Ds (n := 1) (by unfold iter; rw [hr])
   | inl y =>
     simp only
     cases h : aE round y with
     | some e =>
       obtain ⟨n, hn⟩ := ur h; exact Ds (n := n + 1) (by unfold iter; rw [hr]; exact hn)
     | none =>
       cases h2 : aE round x with
       | none => rfl
       | some e =>
         obtain ⟨n, hn⟩ := ur h2
         cases n with
         | zero => cases hn
         | succ n =>
           unfold iter at hn; rw [hr] at hn; rw [Ds hn] at h
           cases h
def zK (st : St) (hp : List (Option AP)) : Option (aq (az hp)) :=
 (nJ st 0 hp).bind fun q => bif ub q.2.1 && apart q.2.1 q.2.2 then some q.1 else none
def nK (hp : List (Option AP)) (x : aq (az hp)) : St := oF 0 (cY hp x)
def fN : List AP → List (Option AP) → Bool
 | [], _ => true
 | .val _ _ :: ps, _ :: hp => fN ps hp
 | .io _ _ :: ps, o :: hp => (match o with | none => true | some (.io _ _) => true | _ => false) && fN ps hp
 | .box _ _ :: ps, o :: hp => (match o with | none => true | some (.box l _) => l | some (.val _ _) => true | _ => false) && fN ps hp
 | .bW _ :: _, _ :: _ => false
 | _ :: _, [] => false
theorem uu : (ps : List AP) → (hp : List (Option AP)) → fN ps hp = true → ∀ (i : Nat) (p : AP), ps[i]? = some p → ∃ o, hp[i]? = some o ∧ match p with
   | .val _ _ => True
   | .io _ _ => o = none ∨ ∃ r d, o = some (.io r d)
   | .box _ _ => o = none ∨ (∃ a b, o = some (.val a b)) ∨ ∃ b, o = some (.box true b)
   | .bW _ => False
 | [], _, _ => by intro i p h; simp at h
 | p :: ps, [], h => by cases p <;> simp [fN] at h
 | p :: ps, o :: hp, h => by
   intro i p' hi; have fL : fN ps hp = true := by
     cases p with
     | val _ _ => exact h
     | io _ => unfold fN at h; rw [Bool.and_eq_true] at h; exact h.2
     | bW _ => cases h
     | box _ _ => unfold fN at h; rw [Bool.and_eq_true] at h; exact h.2
   cases i with
   | succ i => exact (uu ps hp fL i p' (by simpa using hi)).imp fun o ho => ⟨by simpa using ho.1, ho.2⟩
   | zero =>
     simp only [List.getElem?_cons_zero, Option.some.injEq] at hi; subst hi; refine ⟨o, rfl, ?_⟩
     cases p with
     | val _ _ => trivial
     | bW _ => cases h
     | io _ =>
       unfold fN at h; rw [Bool.and_eq_true] at h
       cases o with
       | none => exact .inl rfl
       | some q => cases q with
         | io r d => exact .inr ⟨r, d, rfl⟩
         | val _ _ => cases h.1
         | box _ _ => cases h.1
         | bW _ => cases h.1
     | box _ _ =>
       unfold fN at h; rw [Bool.and_eq_true] at h
       cases o with
       | none => exact .inl rfl
       | some q => cases q with
         | io r d => cases h.1
         | bW _ => cases h.1
         | val a b => exact .inr (.inl ⟨a, b, rfl⟩)
         | box l b =>
           have : l = true := h.1; subst this; exact .inr (.inr ⟨b, rfl⟩)
end Go.TM
namespace Go.TM
open Go Go.RowKit
theorem N7 {st : St} {k : Nat} {rr : RT} {dd : Md} {t : RT} {V : V} {y : aq t} {x : aq (.cons (.sl rr) t)} {u : List Lb} {r : List (Nat × Nat)} (h : BF st k (.io rr dd) t V y = some (x, u, r)) : ∃ A, bl st k 0 1 = some A ∧ ck rr A.xs = some x.1 := by
 cases V with
 | agg _ => cases h
 | ot _ => cases h
 | one cx => cases cx with
   | ref a j g vw => cases vw with
     | full =>
       have h : (bif Nat.beq a k && (Nat.beq j 0 && Nat.beq g 1) then ((bl st a j g).bind fun A => bif A.own && A.md.is dd then (ck rr A.xs).map fun xs => ((xs, y), [Lb.sp a j], ([] : List (Nat × Nat))) else none) else none) = some (x, u, r) := h; obtain ⟨h1, h2⟩ := aH h; rw [Bool.and_eq_true, Bool.and_eq_true] at h1; have e1 := Nat.eq_of_beq_eq_true h1.1; have e2 := Nat.eq_of_beq_eq_true h1.2.1; have e3 := Nat.eq_of_beq_eq_true h1.2.2; subst e1 e2 e3; obtain ⟨A, hA, h3⟩ := Option.bind_eq_some_iff.1 h2; obtain ⟨_, h4⟩ := aH h3; obtain ⟨xs, Rr, e⟩ := Option.map_eq_some_iff.1 h4; injection e with e _; exact ⟨A, hA, by rw [Rr, ← e]; rfl⟩
     | «from» _ => cases h
     | sub _ _ => cases h
   | _ => cases h
theorem LW {st : St} {k : Nat} {qs : List OP} {t : RT} {V : V} {y : aq t} {x : aq (my qs t)} {u : List Lb} {r : List (Nat × Nat)} (h : BF st k (.box true qs) t V y = some (x, u, r)) : V = .one (.ptr k 1 0) ∧ ∃ cs, eR st k 1 = some cs := by
 cases V with
 | agg _ => cases h
 | ot _ => cases h
 | one cx => cases cx with
   | ptr b g off =>
     have h : (bif Nat.beq off 0 && (!true || (Nat.beq b k && Nat.beq g 1)) then ((eR st b g).bind fun cs => (k8 st qs t cs y).map fun q => (q.1, Lb.box b :: cq q.2.1, q.2.2)) else none) = some (x, u, r) := h; obtain ⟨h1, h2⟩ := aH h; simp only [Bool.not_true, Bool.false_or] at h1; rw [Bool.and_eq_true, Bool.and_eq_true] at h1; have e1 := Nat.eq_of_beq_eq_true h1.1; have e2 := Nat.eq_of_beq_eq_true h1.2.1; have e3 := Nat.eq_of_beq_eq_true h1.2.2; subst e1 e2 e3; obtain ⟨cs, xF, _⟩ := Option.bind_eq_some_iff.1 h2; exact ⟨rfl, cs, xF⟩
   | _ => cases h
theorem wB {w0 : World} {mu : Mu} {c : Cz} {st : St} {a : Act} {w : World} (h : Rel w0 mu c st a w) : (l : List (Option AP)) → (k : Nat) → {x : aq (az l)} → {u : List Lb} → {r : List (Nat × Nat)} → nJ st k l = some (x, u, r) → ∀ (i : Nat),
   (∀ rr dd, l[i]? = some (some (.io rr dd)) → ∃ B A : iN, (cY l x)[i]? = some (some (.io B)) ∧ bl st (k + i) 0 1 = some A ∧ B.r.width = A.r.width ∧ B.xs.length = A.xs.length) ∧
   (∀ qs, l[i]? = some (some (.box true qs)) → (∃ cs, eR st (k + i) 1 = some cs) ∧ da st (k + i) = .one (.ptr (k + i) 1 0)) ∧
   (l[i]? = some none → (cY l x)[i]? = some none) ∧ (∀ ag b, l[i]? = some (some (.val ag b)) → ∃ os, (cY l x)[i]? = some (some (.val ag os)))
 | [], k, x, u, r, he => by intro i; simp
 | none :: l, k, x, u, r, he => by
   intro i
   cases i with
   | zero => exact ⟨fun _ _ h => by simp at h, fun _ h => by simp at h, fun _ => rfl, fun _ _ h => by simp at h⟩
   | succ i =>
     have := wB h l (k + 1) he i; rw [show k + 1 + i = k + (i + 1) by omega] at this; exact this
 | some p :: l, k, x, u, r, he => by
   intro i; unfold nJ at he
   cases h1 : nJ st (k + 1) l with
   | none => simp [h1] at he
   | some q1 =>
     obtain ⟨y, us, rs⟩ := q1; simp only [h1] at he
     cases h2 : BF st k p (az l) (da st k) y with
     | none => simp [h2] at he
     | some q2 =>
       obtain ⟨x1, u1, r1⟩ := q2; simp only [h2] at he; injection he with he; injection he with e1 e2; subst e1
       cases i with
       | succ i =>
         have hh := wB h l (k + 1) h1 i; rw [show k + 1 + i = k + (i + 1) by omega] at hh; have e : (p.av (az l) x1).2 = y := (zH h k (h.gJ k) h2).1; have e2 : (cY (some p :: l) x1)[i + 1]? = (cY l y)[i]? := by
           show (cY l (p.av (az l) x1).2)[i]? = _; rw [e]
         rw [e2]; exact hh
       | zero =>
         have e2 : (cY (some p :: l) x1)[0]? = some (some (p.av (az l) x1).1) := rfl; rw [e2]; simp only [List.getElem?_cons_zero, Option.some.injEq, Nat.add_zero]; refine ⟨fun rr dd e => ?_, fun qs e => ?_, (fun e => by cases e), fun ag b e => ?_⟩
         · subst e; obtain ⟨A, hA, hc⟩ := N7 h2; obtain ⟨er, M8⟩ := bA hc; refine ⟨_, A, rfl, hA, by show rr.width = _; rw [← er], ?_⟩; show List.length (x1.1 : List (aq rr)) = _; rw [M8]
           cases er
           rfl
         · subst e; obtain ⟨q1, q2⟩ := LW h2; exact ⟨q2, q1⟩
         · subst e; exact ⟨_, rfl⟩
end Go.TM
namespace Go.TM
open Go Go.RowKit
theorem AT {w0 : World} {mu : Mu} {c : Cz} {st : St} {a : Act} {w : World} (h : Rel w0 mu c st a w) {ps : List AP} (hs : mJ ps mu) {hp : List (Option AP)} (oL : fN ps hp = true) {x : aq (az hp)} (hx : zK st hp = some x) : ∃ c', Rel w0 mu c' (nK hp x) a w := by
 obtain ⟨q, hq, I8⟩ := Option.bind_eq_some_iff.1 hx; obtain ⟨ql, EE⟩ := aH I8; injection EE with EE; obtain ⟨x0, u, r⟩ := q; subst EE; rw [Bool.and_eq_true] at ql; obtain ⟨BC, tb, NM, Xl, hold⟩ := wA h hp 0 hq; have XJ := wB h hp 0 hq; have Lt := pe _ BC ql.1; have EH : ∀ p ∈ r, Lb.sp p.1 p.2 ∉ u := by
   intro p hp hm; have h1 := List.all_eq_true.1 ql.2 p hp; have h2 := List.all_eq_true.1 h1 _ hm; rw [(Lb.zx rfl).2 rfl] at h2
   cases h2
 have sy := Classical.propDecidable
 let ρ : Lb → Option Lb := fun l => match look tb l with | some y => some y | none => if l = .out then some .out else none
 have hρt : ∀ p ∈ tb, ρ p.1 = some p.2 := by
   intro p hp; have := zy tb (by rw [NM]; exact Lt) hp; show (match look tb p.1 with | some y => some y | none => _) = _; rw [this]
 have zD : ∀ {l y}, look tb l = some y → l ∈ u := by
   intro l y hl; have := xf tb hl; rw [← NM]; exact List.mem_map.2 ⟨_, this, rfl⟩
 have hρr : ∀ p ∈ r, ρ (.sp p.1 p.2) = none := by
   intro p hp; show (match look tb (.sp p.1 p.2) with | some y => some y | none => if Lb.sp p.1 p.2 = .out then some Lb.out else none) = none
   cases hl : look tb (.sp p.1 p.2) with
   | some y => exact absurd (zD hl) (EH p hp)
   | none => simp
 have hρo : ρ .out = some .out := by
   show (match look tb Lb.out with | some y => some y | none => if Lb.out = Lb.out then some Lb.out else none) = _
   cases hl : look tb Lb.out with
   | some y => have := BC _ (zD hl); cases this
   | none => simp
 have AQ : By w0 mu (c.map ρ) w := by
   refine ⟨fun b l hb => ?_, fun b hb hn => ?_, h.kept, h.old⟩
   · obtain ⟨k, hk, e⟩ := Cz.map_some hb; obtain ⟨g1, g2⟩ := h.owned b k hk; refine ⟨g1, g2.imp (fun e2 => ?_) id⟩; subst e2; rw [hρo] at e
     cases e; rfl
   · cases hk : c.own b with
     | none => exact h.free b hb hk
     | some k =>
       have e : ρ k = none := (Cz.kR (ρ := ρ) hk).symm.trans hn; rcases (h.owned b k hk).2 with g | g | g
       · subst g; rw [hρo] at e; cases e
       · exact absurd g (Nat.not_le_of_lt hb)
       · exact .inl g
 refine Rel.KP AQ h.plain (hold ρ hρt hρr) (fun p hpm => ?_); have PV := h.fw p hpm; have hlen : ∀ (i : Nat) (o : Option AP), hp[i]? = some o → i < (cY hp x0).length := fun i o ho => by rw [qO]; exact (List.getElem?_eq_some_iff.1 ho).1
 rcases hs p hpm with ⟨i, rr, W, n, l, rfl, dd, Sf⟩ | ⟨i, oK, b, qs, rfl, Sf⟩ | ⟨i, j, W, n, l, qs, rfl, Sf⟩
 · obtain ⟨o, ho, XK⟩ := uu ps hp oL i _ Sf; refine ⟨rfl, hlen i o ho, fun av Hy => .inl ?_⟩; rcases XK with rfl | ⟨r2, d2, rfl⟩
   · rw [(XJ i).2.2.1 ho] at Hy; cases Hy
   · obtain ⟨B, A, e1, e2, e3, e4⟩ := (XJ i).1 r2 d2 ho; rw [e1] at Hy; simp only [Option.some.injEq] at Hy; rw [Nat.zero_add] at e2; obtain ⟨f1, f2, f3⟩ := PV.2 A e2; exact ⟨B, Hy.symm, fun _ => ⟨e3.trans f1, e4.trans f2, f3⟩⟩
 · obtain ⟨o, ho, XK⟩ := uu ps hp oL i _ Sf; refine ⟨rfl, hlen i o ho, fun os s4 => ?_⟩; rcases XK with rfl | ⟨a1, b1, rfl⟩ | ⟨b1, rfl⟩
   · rw [(XJ i).2.2.1 ho] at s4; cases s4
   · obtain ⟨zw, e⟩ := (XJ i).2.2.2 a1 b1 ho; rw [e] at s4; cases s4
   · obtain ⟨⟨cs, xF⟩, hv⟩ := (XJ i).2.1 b1 ho; rw [Nat.zero_add] at xF hv; have tn := h.gJ i; rw [hv] at tn; rw [tn.2.2 cs xF, PV.2 cs xF]
 · obtain ⟨o, ho, XK⟩ := uu ps hp oL i _ Sf; exact XK.elim
def Dt (id : Nat) (hp e0 e1 : List (Option AP)) : Ex → St → Option (Sum (aq (az hp)) (Sum (aq (az e0)) (aq (az e1))))
 | .normal, st => (zK st hp).map .inl
 | .exit m, st => bif Nat.beq m id then (zK st e0).map fun y => .inr (.inl y) else none
 | .ret, st => (zK st e1).map fun y => .inr (.inr y)
noncomputable def AU {R : Type} (hp e0 e1 : List (Option AP)) (round : aq (az hp) → Option (Sum (aq (az hp)) (Sum (aq (az e0)) (aq (az e1))))) (st : St) (k : Ex → St → Option R) : Option R :=
 (zK st hp).bind fun x => (aE round x).bind fun z => match z with
   | .inl y => k .normal (nK e0 y)
   | .inr y => k .ret (nK e1 y)
theorem PW {R : Type} {P : Program} {T : lZ} {S : kK} {D : kP} {n id : Nat} {w0 : World} {mu : Mu} {ps : List AP} {hp e0 e1 : List (Option AP)} {b : Code} {r : R} {L : nc R} {Ru : Nat → Array Oper → Prop}
   {L' : nc (Sum (aq (az hp)) (Sum (aq (az e0)) (aq (az e1))))} {round : aq (az hp) → Option (Sum (aq (az hp)) (Sum (aq (az e0)) (aq (az e1))))}
   (EF : sI P T S w0 mu n) (hD : rj (Sum (aq (az hp)) (Sum (aq (az e0)) (aq (az e1)))) P T S D w0 mu n Ru) (hs : mJ ps mu) (hf : (fN ps hp && (fN ps e0 && fN ps e1)) = true) (vP : fM n b = true) (XG : eN Ru b)
   (CW : ∀ z, ej (mT P w0 mu n L' z) b) (Jq : ∀ x, fD T S D L' b (nK hp x) (Dt id hp e0 e1) = round x) (hL : ∀ st k, L id b st k = AU hp e0 e1 round st k) : mT P w0 mu n L r id b := by
 intro k Q hk c st a w h hn hv; rw [Bool.and_eq_true, Bool.and_eq_true] at hf; rw [hL] at hv; unfold AU at hv; obtain ⟨x, hx, hv⟩ := Option.bind_eq_some_iff.1 hv; obtain ⟨z, hz, hv⟩ := Option.bind_eq_some_iff.1 hv; obtain ⟨c1, h1⟩ := AT h hs hf.1 hx; obtain ⟨m, hm⟩ := ur hz; refine wp_block ?_; refine wp_loop_ghost (fun m a w => ∃ x c, Rel w0 mu c (nK hp x) a w ∧ a.tmps.size = n ∧ iter round m x = some z) m ⟨x, c1, h1, hn, hm⟩ ?_
 rintro m a w ⟨x, c, hR, hn, hi⟩
 cases m with
 | zero => cases hi
 | succ m =>
   unfold iter at hi
   cases hr : round x with
   | none => rw [hr] at hi; cases hi
   | some y =>
     rw [hr] at hi; refine zv EF hD b vP (CW y) XG (fun {e} {c2} {il} {a2} {w2} g1 g2 g3 => ?_) hR hn ((Jq x).trans hr)
     cases e with
     | normal =>
       obtain ⟨x2, q1, rfl⟩ := Option.map_eq_some_iff.1 g3; obtain ⟨c3, g4⟩ := AT g1 hs hf.1 q1; exact ⟨m, Nat.lt_succ_self m, x2, c3, g4, g2, hi⟩
     | exit m' =>
       obtain ⟨Po, g5⟩ := aH g3; have Po := Nat.eq_of_beq_eq_true Po; subst Po; obtain ⟨x2, q1, rfl⟩ := Option.map_eq_some_iff.1 g5; injection hi with hi; subst hi; obtain ⟨c3, g4⟩ := AT g1 hs hf.2.1 q1; show (if m' = m' then Q .normal a2 w2 else Q (.exit m') a2 w2); rw [if_pos rfl]; exact hk g4 g2 hv
     | ret =>
       obtain ⟨x2, q1, rfl⟩ := Option.map_eq_some_iff.1 g3; injection hi with hi; subst hi; obtain ⟨c3, g4⟩ := AT g1 hs hf.2.2 q1; exact hk g4 g2 hv
end Go.TM
namespace Go.TM
open Go Go.RowKit
section
variable {P : Program} {ops : Array Oper} {Q : Exit → Act → World → Prop} {md : Region.Mode} {ds : List Nat}
def s8 (md : Region.Mode) (ops : Array Oper) (i : Nat) : Nat → Nat → Bool
 | 0, _ => false
 | fuel + 1, d => match ops[d]? with
   | some o => o.after.any fun e => Region.binds md e && (e.on == i || s8 md ops i fuel e.on)
   | none => false
def s9 (md : Region.Mode) (ops : Array Oper) (aQ : Array Bool) : Prop :=
 ∀ j oj, ops[j]? = some oj → aQ.getD j false = true → ∀ e ∈ oj.after, Region.binds md e = true → aQ.getD e.on false = true
theorem s9.set {aQ : Array Bool} {i : Nat} (h : s9 md ops aQ) (hi : i ∈ Region.ready md ops aQ) : s9 md ops (aQ.setIfInBounds i true) := by
 obtain ⟨_, oi, KT, qk⟩ := mem_ready.1 hi; intro j oj hj hl e he hb
 by_cases hij : i = j
 · subst hij; have : oj = oi := Option.some.inj (hj.symm.trans KT); subst this; exact getD_set_true (qk e he hb)
 · rw [getD_set_ne false hij] at hl; exact getD_set_true (h j oj hj hl e he hb)
theorem s9.none (md : Region.Mode) (ops : Array Oper) (n : Nat) : s9 md ops (Array.replicate n false) := by
 intro j oj _ hl; simp [Array.getD_eq_getD_getElem?, Array.getElem?_replicate] at hl
 split at hl <;> simp at hl
theorem zL {aQ : Array Bool} {i : Nat} (hc : s9 md ops aQ) : ∀ (fuel d : Nat), s8 md ops i fuel d = true → aQ.getD d false = true → aQ.getD i false = true
 | 0, _, h, _ => by simp [s8] at h
 | fuel + 1, d, h, hl => by
   unfold s8 at h
   cases ho : ops[d]? with
   | none => rw [ho] at h; simp at h
   | some o =>
     rw [ho] at h; obtain ⟨e, he, h1⟩ := Array.any_eq_true'.1 h; simp only [Bool.and_eq_true, Bool.or_eq_true, beq_iff_eq] at h1; have hle := hc d o ho hl e he h1.1; rcases h1.2 with h2 | h2
     · rw [← h2]; exact hle
     · exact zL hc fuel e.on h2 hle
theorem Cj {aQ : Array Bool} {i d fuel : Nat} (hc : s9 md ops aQ) (hr : s8 md ops i fuel d = true) (G1 : aQ.getD i true = false) : d ∉ Region.ready md ops aQ := by
 intro hd; obtain ⟨_, o, ho, qk⟩ := mem_ready.1 hd; have hi : aQ.getD i false = true := by
   cases fuel with
   | zero => simp [s8] at hr
   | succ n =>
     unfold s8 at hr; rw [ho] at hr; obtain ⟨e, he, h1⟩ := Array.any_eq_true'.1 hr; simp only [Bool.and_eq_true, Bool.or_eq_true, beq_iff_eq] at h1; have hle := qk e he h1.1; rcases h1.2 with h2 | h2
     · rw [← h2]; exact hle
     · exact zL hc n e.on h2 hle
 rcases Nat.lt_or_ge i aQ.size with h' | h'
 · simp [h'] at G1 hi; rw [G1] at hi
   cases hi
 · simp [Array.getElem?_eq_none h'] at G1
def oN (P : Program) (md : Region.Mode) (ops : Array Oper) (Q : Exit → Act → World → Prop) (ds : List Nat) : Nat → Array Bool → Act → World → Prop
 | 0, aQ, a, w => Region.ready md ops aQ = [] ∧ Q .normal a w
 | fuel + 1, aQ, a, w =>
   (Region.ready md ops aQ = [] → Q .normal a w) ∧
   ∀ i ∈ Region.ready md ops aQ, wpOp P ops Q i (fun a' w' => (i ∉ ds → ji w w') ∧ oN P md ops Q ds fuel (aQ.setIfInBounds i true) a' w') a w
theorem xO : ∀ (fuel : Nat) (aQ : Array Bool) (a : Act) (w : World), oN P md ops Q ds fuel aQ a w → wpAny P md ops Q fuel aQ a w
 | 0, _, _, _, h => h
 | fuel + 1, _, _, _, h => ⟨h.1, fun i hi => wpOp_mono (fun a' w' h' => xO fuel _ a' w' h'.2) (h.2 i hi)⟩
theorem Gi {i : Nat} {oi : Oper} {v : Value} {w0 : World} (hi : ops[i]? = some oi) (HN : ∀ (j : Nat) (o : Oper) cs b, ops[j]? = some o → o.op ≠ .select cs b)
   (hQ : ∀ c a w, Q (.panic c) (a.put oi.dst v) w → Q (.panic c) a w) (n : Nat) :
   ∀ (fuel : Nat) (aQ : Array Bool) (a : Act) (w : World),
     (∀ j oj, ops[j]? = some oj → j ≠ i → aQ.getD j true = false → (∀ e ∈ oj.after, Region.binds md e = true → e.on ≠ i) → oi.apart ops oj = true) →
     s9 md ops aQ → (∀ d ∈ ds, aQ.getD d true = false → s8 md ops i n d = true) →
     i ∈ Region.ready md ops aQ → YieldsIf P ops (ji w0) oi v a → ji w0 w →
     oN P md ops Q ds fuel (aQ.setIfInBounds i true) (a.put oi.dst v) w → oN P md ops Q ds (fuel + 1) aQ a w := by
 intro fuel
 induction fuel with
 | zero =>
   intro aQ a w _ _ _ hr hy hS H; refine ⟨fun h => (by rw [h] at hr; cases hr), fun j hj => ?_⟩
   by_cases Gj : j = i
   · subst Gj; exact hy.wpOp hi hS ⟨fun _ => ji.refl w, H⟩
   · have := ready_mono hj Gj; rw [H.1] at this
     cases this
 | succ fuel ih =>
   intro aQ a w C3 hc hd hr hy hS H; refine ⟨fun h => (by rw [h] at hr; cases hr), fun j hj => ?_⟩
   by_cases Gj : j = i
   · subst Gj; exact hy.wpOp hi hS ⟨fun _ => ji.refl w, H⟩
   · have h1 := H.2 j (ready_mono hj Gj); obtain ⟨Jr, oj, SB, qk⟩ := mem_ready.1 hj; have LX := (mem_ready.1 hr).1; have LU : ∀ e ∈ oj.after, Region.binds md e = true → e.on ≠ i := fun e he hb heq => by
       have h1 := qk e he hb; rw [heq] at h1; rcases Nat.lt_or_ge i aQ.size with h' | h'
       · simp [h'] at LX h1; rw [LX] at h1; cases h1
       · simp [Array.getElem?_eq_none h'] at h1
     have hjd : j ∉ ds := fun hm => Cj hc (hd j hm Jr) LX hj
     have h2 := wpOp_putIf SB (C3 j oj SB Gj Jr LU) (fun cs b => HN i oi cs b hi) (fun cs b => HN j oj cs b SB) hQ hy h1; have Js : ∀ k ok, ops[k]? = some ok → k ≠ i → (aQ.setIfInBounds j true).getD k true = false →
         (∀ e ∈ ok.after, Region.binds md e = true → e.on ≠ i) → oi.apart ops ok = true := fun k ok hk hki G1 Pp => by
       refine C3 k ok hk hki ?_ Pp
       by_cases AW : j = k
       · subst AW; exact Jr
       · rw [getD_set_ne true AW] at G1; exact G1
     have KO : ∀ d ∈ ds, (aQ.setIfInBounds j true).getD d true = false → s8 md ops i n d = true := fun d hm G1 => by
       refine hd d hm ?_
       by_cases AW : j = d
       · subst AW; exact Jr
       · rw [getD_set_ne true AW] at G1; exact G1
     refine wpOp_mono (fun a' w' h3 => ⟨h3.2.1, ih (aQ.setIfInBounds j true) a' w' Js (hc.set hj) KO (ready_mono hr (Ne.symm Gj)) h3.1 (hS.trans (h3.2.1 hjd)) ?_⟩) h2; rw [Array.setIfInBounds_comm _ _ Gj]; exact h3.2.2
theorem Jt {i : Nat} {oi : Oper} {v : Value} (hi : ops[i]? = some oi) (HN : ∀ (j : Nat) (o : Oper) cs b, ops[j]? = some o → o.op ≠ .select cs b)
   (hQ : ∀ c a w, Q (.panic c) (a.put oi.dst v) w → Q (.panic c) a w) :
   ∀ (fuel : Nat) (aQ : Array Bool) (a : Act) (w : World),
     (∀ j oj, ops[j]? = some oj → j ≠ i → aQ.getD j true = false → (∀ e ∈ oj.after, Region.binds md e = true → e.on ≠ i) → oi.apart ops oj = true) →
     i ∈ Region.ready md ops aQ → Yields P ops oi v a →
     oN P md ops Q ds fuel (aQ.setIfInBounds i true) (a.put oi.dst v) w → oN P md ops Q ds (fuel + 1) aQ a w := by
 intro fuel
 induction fuel with
 | zero =>
   intro aQ a w _ hr hy H; refine ⟨fun h => (by rw [h] at hr; cases hr), fun j hj => ?_⟩
   by_cases Gj : j = i
   · subst Gj; exact (hy.yieldsIf (S := fun _ => True)).wpOp hi trivial ⟨fun _ => ji.refl w, H⟩
   · have := ready_mono hj Gj; rw [H.1] at this
     cases this
 | succ fuel ih =>
   intro aQ a w C3 hr hy H; refine ⟨fun h => (by rw [h] at hr; cases hr), fun j hj => ?_⟩
   by_cases Gj : j = i
   · subst Gj; exact (hy.yieldsIf (S := fun _ => True)).wpOp hi trivial ⟨fun _ => ji.refl w, H⟩
   · have h1 := H.2 j (ready_mono hj Gj); obtain ⟨Jr, oj, SB, qk⟩ := mem_ready.1 hj; have LX := (mem_ready.1 hr).1; have LU : ∀ e ∈ oj.after, Region.binds md e = true → e.on ≠ i := fun e he hb heq => by
       have h1 := qk e he hb; rw [heq] at h1; rcases Nat.lt_or_ge i aQ.size with h' | h'
       · simp [h'] at LX h1; rw [LX] at h1; cases h1
       · simp [Array.getElem?_eq_none h'] at h1
     have h2 := wpOp_put SB (C3 j oj SB Gj Jr LU) (fun cs b => HN i oi cs b hi) (fun cs b => HN j oj cs b SB) hQ hy h1; have Js : ∀ k ok, ops[k]? = some ok → k ≠ i → (aQ.setIfInBounds j true).getD k true = false →
         (∀ e ∈ ok.after, Region.binds md e = true → e.on ≠ i) → oi.apart ops ok = true := fun k ok hk hki G1 Pp => by
       refine C3 k ok hk hki ?_ Pp
       by_cases AW : j = k
       · subst AW; exact Jr
       · rw [getD_set_ne true AW] at G1; exact G1
     refine wpOp_mono (fun a' w' h3 => ⟨h3.2.1, ih (aQ.setIfInBounds j true) a' w' Js (ready_mono hr (Ne.symm Gj)) h3.1 ?_⟩) h2; rw [Array.setIfInBounds_comm _ _ Gj]; exact h3.2.2
end
end Go.TM
namespace Go.TM
open Go Go.RowKit
def yc (i : Nat) : List Nat → Bool
 | [] => false
 | x :: l => Nat.beq x i || yc i l
def Rv (ops : List Oper) (ls : List Nat) (j : Nat) : Bool :=
 match nth ops j with
 | some o => !yc j ls && o.after.toList.all fun e => !Region.binds .any e || yc e.on ls
 | none => false
def KU (ops : Array Oper) (HO : List Oper) (n : Nat) (ls : List Nat) (i : Nat) : Bool :=
 match nth HO i with
 | some oi => (List.range n).all fun j => Nat.beq j i || (yc j ls || match nth HO j with
   | some oj => (oj.after.toList.any fun e => Region.binds .any e && Nat.beq e.on i) || oi.apart ops oj
   | none => true)
 | none => false
def Gk (HO : List Oper) (n : Nat) (ls : List Nat) (i : Nat) : Bool := (List.range n).all fun j => Nat.beq j i || !Rv HO ls j
def Pl.cY : Pl → List Nat
 | .nil => []
 | .op i _ _ => [i]
 | .alt p q => p.cY ++ q.cY
def N8 (HO : List Oper) (n : Nat) (ls hs : List Nat) : Bool := (List.range n).all fun j => !Rv HO ls j || yc j hs
def k9 (ops : Array Oper) (HO : List Oper) (n : Nat) (ds : List Nat) : Bool → List Nat → Pl → Bool
 | al, ls, .nil => !al && (List.range n).all fun j => !Rv HO ls j
 | al, ls, .op i kd r => Rv HO ls i && ((match kd with
     | .any => !al && KU ops HO n ls i
     | .take => !al && (KU ops HO n ls i && ds.all fun d => yc d ls || s8 .any ops i n d)
     | .one => al || Gk HO n ls i
     | .last => (al || Gk HO n ls i) && yc i ds) && k9 ops HO n ds false (i :: ls) r)
 | al, ls, .alt p q => (al || N8 HO n ls (p.cY ++ q.cY)) && (k9 ops HO n ds true ls p && k9 ops HO n ds true ls q)
def Fs : Pl → List Nat
 | .nil => []
 | .op i .last l => i :: Fs l
 | .op _ _ l => Fs l
 | .alt p q => Fs p ++ Fs q
def Pl.depth : Pl → Nat
 | .nil => 0
 | .op _ _ l => l.depth + 1
 | .alt p q => Nat.max p.depth q.depth
def Du (ops : Array Oper) (l : Pl) : Bool :=
 Region.noSelect ops && (Nat.ble l.depth ops.size && k9 ops ops.toList ops.size (Fs l) false [] l)
structure Pq (n : Nat) (ls : List Nat) (aQ : Array Bool) : Prop where
 size : aQ.size = n
 gf : ∀ j, aQ.getD j false = yc j ls
 gt : ∀ j, aQ.getD j true = (yc j ls || decide (n ≤ j))
theorem Pq.push {n : Nat} {ls : List Nat} {aQ : Array Bool} (h : Pq n ls aQ) {i : Nat} (hi : i < n) : Pq n (i :: ls) (aQ.setIfInBounds i true) where
 size := by simp [h.size]
 gf := fun j => by
   unfold yc
   by_cases e : i = j
   · subst e; have : Nat.beq i i = true := Nat.beq_refl i; rw [this]; simp [h.size, hi]
   · rw [getD_set_ne false e, h.gf j]; have : Nat.beq i j = false := by
       cases hq : Nat.beq i j
       · rfl
       · exact absurd (Nat.eq_of_beq_eq_true hq) e
     simp [this]
 gt := fun j => by
   unfold yc
   by_cases e : i = j
   · subst e; simp [h.size, hi]
   · rw [getD_set_ne true e, h.gt j]; have : Nat.beq i j = false := by
       cases hq : Nat.beq i j
       · rfl
       · exact absurd (Nat.eq_of_beq_eq_true hq) e
     simp [this]
theorem Pq.none (n : Nat) : Pq n [] (Array.replicate n false) where
 size := by simp
 gf := fun j => by
   simp only [Array.getD_eq_getD_getElem?, Array.getElem?_replicate, yc]
   split <;> rfl
 gt := fun j => by
   simp only [Array.getD_eq_getD_getElem?, Array.getElem?_replicate, yc]
   split
   · rename_i h; simp; omega
   · rename_i h; simp; omega
theorem xi {ops : Array Oper} {ls : List Nat} {aQ : Array Bool} (h : Pq ops.size ls aQ) (j : Nat) : Rv ops.toList ls j = true ↔ j ∈ Region.ready .any ops aQ := by
 rw [mem_ready]; unfold Rv; rw [gO, Array.getElem?_toList, h.gt j]
 cases ho : ops[j]? with
 | none => simp
 | some o =>
   have dm : j < ops.size := (Array.getElem?_eq_some_iff.1 ho).1; have hn : decide (ops.size ≤ j) = false := by simp; omega
   simp only [hn, Bool.or_false, Bool.and_eq_true, Bool.not_eq_true', List.all_eq_true, Array.mem_toList_iff, Bool.or_eq_true, Option.some.injEq, exists_eq_left', h.gf]
   constructor
   · rintro ⟨h0, h1⟩
     exact ⟨h0, fun e he hb => (h1 e he).resolve_left (by simp [hb])⟩
   · rintro ⟨h0, h1⟩
     refine ⟨h0, fun e he => ?_⟩
     cases hb : Region.binds .any e
     · exact .inl rfl
     · exact .inr (h1 e he hb)
theorem LY {i j : Nat} (h : i ≠ j) : Nat.beq i j = false := by
 cases hq : Nat.beq i j
 · rfl
 · exact absurd (Nat.eq_of_beq_eq_true hq) h
theorem Dv {ops : Array Oper} {ls : List Nat} {aQ : Array Bool} (h : Pq ops.size ls aQ) {i : Nat} {oi : Oper} (hi : ops[i]? = some oi) (hf : KU ops ops.toList ops.size ls i = true) :
   ∀ j oj, ops[j]? = some oj → j ≠ i → aQ.getD j true = false → (∀ e ∈ oj.after, Region.binds .any e = true → e.on ≠ i) → oi.apart ops oj = true := by
 intro j oj hj Gj G1 Pp; unfold KU at hf; rw [gO, Array.getElem?_toList, hi] at hf; have dm : j < ops.size := (Array.getElem?_eq_some_iff.1 hj).1; have h1 := List.all_eq_true.1 hf j (List.mem_range.2 dm); rw [gO, Array.getElem?_toList, hj, LY Gj, Bool.false_or] at h1; rw [h.gt j, Bool.or_eq_false_iff] at G1; rw [G1.1, Bool.false_or, Bool.or_eq_true] at h1; rcases h1 with h1 | h1
 · obtain ⟨e, he, h2⟩ := List.any_eq_true.1 h1; rw [Bool.and_eq_true] at h2; exact absurd (Nat.eq_of_beq_eq_true h2.2) (Pp e (Array.mem_toList_iff.1 he) h2.1)
 · exact h1
theorem HP {ops : Array Oper} {ls : List Nat} {aQ : Array Bool} (h : Pq ops.size ls aQ) {i : Nat} (hf : Gk ops.toList ops.size ls i = true) : ∀ j ∈ Region.ready .any ops aQ, j = i := by
 intro j hj; have dm : j < ops.size := by
   obtain ⟨_, o, ho, _⟩ := mem_ready.1 hj; exact (Array.getElem?_eq_some_iff.1 ho).1
 have h1 := List.all_eq_true.1 hf j (List.mem_range.2 dm); rw [(xi h j).2 hj, Bool.not_true, Bool.or_false] at h1; exact Nat.eq_of_beq_eq_true h1
theorem zM {P : Program} {T : lZ} {S : kK} {w0 : World} {mu : Mu} {c : Cz} {st bh : St} {a : Act} {w : World} {ops : Array Oper} {o : Oper} {C : World → Prop} (h : Rel w0 mu c st a w)
   (hd : ∀ k, o.dst = some k → k < a.tmps.size) (hv : (AF T S ops.toList st o).val = some bh)
   (base : (Ku T S st o).val = some bh → ∃ v, (∀ w' : World, C w' → (execOp a.eval o).run P w' = .ok (.value v) w') ∧ Rel w0 mu c bh (a.put o.dst v) w) :
   ∃ v, YieldsIf P ops C o v a ∧ Rel w0 mu c bh (a.put o.dst v) w := by
 unfold AF at hv; unfold YieldsIf Region.wanted
 cases hg : o.guard with
 | none =>
   simp only [hg] at hv ⊢; obtain ⟨v, h1, h2⟩ := base hv; exact ⟨v, .inl ⟨trivial, h1⟩, h2⟩
 | some p =>
   obtain ⟨j, want⟩ := p; simp only [hg] at hv ⊢
   cases hj : (nth ops.toList j).bind (·.dst) with
   | none => simp [hj, N.val] at hv
   | some d =>
     simp only [hj] at hv
     split at hv
     · rename_i b ND; obtain ⟨h1, h2⟩ := xa h ND; rw [C5 (ops := ops) hj h1 h2]; have yes : (Ku T S (TM.bj st (some d) (.one (.bool b))) o).val = some bh → ∃ v, (∀ w' : World, C w' → (execOp a.eval o).run P w' = .ok (.value v) w') ∧ Rel w0 mu c bh (a.put o.dst v) w := fun e => base (by rwa [xc st d ND] at e)
       have no : (N.done (TM.bj (TM.bj st (some d) (.one (.bool b))) o.dst (.ot []))).val = some bh → Rel w0 mu c bh (a.put o.dst undef) w := by
         intro e; simp only [N.val, Option.some.injEq] at e; subst e; rw [xc st d ND]; exact h.bj (xd _ _ _) hd
       rcases wh hv with ⟨hb, Cp⟩ | ⟨hb, Cp⟩
       · subst hb
         cases want
         · exact ⟨undef, .inr ⟨rfl, rfl⟩, no Cp⟩
         · obtain ⟨v, h3, h4⟩ := yes Cp; exact ⟨v, .inl ⟨rfl, h3⟩, h4⟩
       · subst hb
         cases want
         · obtain ⟨v, h3, h4⟩ := yes Cp; exact ⟨v, .inl ⟨rfl, h3⟩, h4⟩
         · exact ⟨undef, .inr ⟨rfl, rfl⟩, no Cp⟩
     · rename_i ND; simp only [N.val, Option.some.injEq] at hv; subst hv; rw [xL (ops := ops) hj (C6 h ND)]; exact ⟨undef, .inr ⟨by cases want <;> rfl, rfl⟩, h.bj (xd _ _ _) hd⟩
     · simp [N.val] at hv
theorem PZ {P : Program} {T : lZ} (hT : gX P T) {S : kK} {w0 : World} {mu : Mu} {c : Cz} {st : St} {a : Act} {w : World} (h : Rel w0 mu c st a w) {o : Oper} (hk : kindOk S st o .take = true)
   {bh : St} (hv : (Ku T S st o).val = some bh) (hd : ∀ k, o.dst = some k → k < a.tmps.size) : ∃ v, (∀ w' : World, ji w w' → (execOp a.eval o).run P w' = .ok (.value v) w') ∧ Rel w0 mu c bh (a.put o.dst v) w := by
 unfold kindOk at hk; unfold Ku at hv
 cases ho : o.op with
 | load t x =>
   simp only [ho] at hv; obtain ⟨v, h1, h2⟩ := G3 hT h (bY h x) hv hd; exact ⟨v, fun w' hw => by simp only [execOp, ho]; exact rI (h1 w' hw), h2⟩
 | _ => simp [ho] at hk
theorem zN {i : Nat} : (l : List Nat) → yc i l = true → i ∈ l
 | [], h => by cases h
 | x :: l, h => by
   unfold yc at h; rw [Bool.or_eq_true] at h; rcases h with h | h
   · rw [Nat.eq_of_beq_eq_true h]; exact List.mem_cons_self
   · exact List.mem_cons_of_mem _ (zN l h)
theorem wC {R : Type} {P : Program} {T : lZ} (hT : gX P T) (hE : xq P T) {S : kK} {w0 : World} {mu : Mu} {n : Nat} (EF : sI P T S w0 mu n) {ops : Array Oper} {ds : List Nat} {Q : Exit → Act → World → Prop} (hQ : ∀ c a w, ¬ Q (.panic c) a w)
   {k : St → Option R} {r : R} (hk : Next w0 mu n r k (Q .normal)) (SC : Region.noSelect ops = true) (vP : x5 n ops.toList = true) :
   (l : Pl) → (ls : List Nat) → (aQ : Array Bool) → (fuel : Nat) → {c : Cz} → {st : St} → {a : Act} → {w : World} → Pq ops.size ls aQ → s9 .any ops aQ → l.depth ≤ fuel →
     Rel w0 mu c st a w → a.tmps.size = n → sZ T S ops.toList l st k = some r →
     (k9 ops ops.toList ops.size ds false ls l = true → oN P .any ops Q ds fuel aQ a w) ∧
     (k9 ops ops.toList ops.size ds true ls l = true → ∃ HQ, fuel = HQ + 1 ∧ ∀ i ∈ l.cY, i ∈ Region.ready .any ops aQ ∧ wpOp P ops Q i (fun a' w' => (i ∉ ds → ji w w') ∧ oN P .any ops Q ds HQ (aQ.setIfInBounds i true) a' w') a w)
 | .nil, ls, aQ, fuel, c, st, a, w, hl, _, _, h, hn, hv => by
   refine ⟨fun hb => ?_, fun hb => by simp [k9] at hb⟩; unfold k9 at hb; rw [Bool.and_eq_true] at hb; have hr : Region.ready .any ops aQ = [] := by
     refine List.eq_nil_iff_forall_not_mem.2 fun j hj => ?_
     obtain ⟨_, o, ho, _⟩ := mem_ready.1 hj; have dm : j < ops.size := (Array.getElem?_eq_some_iff.1 ho).1; have h1 := List.all_eq_true.1 hb.2 j (List.mem_range.2 dm); rw [(xi hl j).2 hj] at h1
     cases h1
   have hq := hk h hn hv
   cases fuel with
   | zero => exact ⟨hr, hq⟩
   | succ fuel => exact ⟨fun _ => hq, fun i hi => by rw [hr] at hi; cases hi⟩
 | .op i kd l, ls, aQ, 0, c, st, a, w, hl, _, hf, h, hn, hv => absurd hf (by simp [Pl.depth])
 | .op i kd l, ls, aQ, fuel + 1, c, st, a, w, hl, hs, hf, h, hn, hv => by
   have hf : l.depth ≤ fuel := Nat.le_of_succ_le_succ hf; have first : ∀ al, k9 ops ops.toList ops.size ds al ls (.op i kd l) = true → Rv ops.toList ls i = true ∧ k9 ops ops.toList ops.size ds false (i :: ls) l = true := by
     intro al hb; unfold k9 at hb; rw [Bool.and_eq_true, Bool.and_eq_true] at hb; exact ⟨hb.1, hb.2.2⟩
   have step : Rv ops.toList ls i = true → k9 ops ops.toList ops.size ds false (i :: ls) l = true → (kd = .one ∨ i ∈ ds) → wpOp P ops Q i (fun a' w' => (i ∉ ds → ji w w') ∧ oN P .any ops Q ds fuel (aQ.setIfInBounds i true) a' w') a w := by
     intro SD fL hds; have Rw := (xi hl i).1 SD; obtain ⟨_, o, KT, _⟩ := mem_ready.1 Rw; have dm : i < ops.size := (Array.getElem?_eq_some_iff.1 KT).1; unfold sZ at hv; rw [gO, Array.getElem?_toList, KT] at hv; obtain ⟨Ps, hv⟩ := aH hv; rw [N.fold_eq] at hv; obtain ⟨bh, h1, h2⟩ := Option.bind_eq_some_iff.1 hv; have KO : ∀ k, o.dst = some k → k < a.tmps.size := fun k hk => by rw [hn]; exact AI vP (by rw [Array.mem_toList_iff]; exact Array.mem_of_getElem? KT) k hk
     have next : ∀ {c' : Cz} {a' : Act} {w' : World}, Rel w0 mu c' bh a' w' → a'.tmps.size = n → oN P .any ops Q ds fuel (aQ.setIfInBounds i true) a' w' := fun hr Lr =>
       (wC hT hE EF hQ hk SC vP l (i :: ls) _ fuel (hl.push dm) (hs.set Rw) hf hr Lr h2).1 fL
     have hko : kd = .one → kindOk S st o .one = true := fun e => by rw [e] at Ps; exact Ps
     unfold wpOp; rw [KT]; rcases Hn EF h hn (fun k hk => by rw [← hn]; exact KO k hk) h1 with ⟨hw, s3⟩ | ⟨hw, wv⟩
     · simp only [hw, if_true]; refine .inl (Oper.wp_mono (fun a' w' ⟨⟨c', hr, mm⟩, PK⟩ => ⟨fun Lt => ?_, next hr (mm.trans hn)⟩) (s3 Q)); rcases hds with e | e
       · exact PK (hko e)
       · exact absurd e Lt
     · simp only [hw, Bool.false_eq_true, if_false]; exact ⟨fun _ => ji.refl w, next wv ((rH _ _ _).trans hn)⟩
   refine ⟨fun hb => ?_, fun hb => ⟨fuel, rfl, fun j hj => ?_⟩⟩
   · obtain ⟨SD, fL⟩ := first _ hb; have Rw := (xi hl i).1 SD; unfold k9 at hb; rw [Bool.and_eq_true, Bool.and_eq_true] at hb; obtain ⟨_, KV, _⟩ := hb; have alone : Gk ops.toList ops.size ls i = true → (kd = .one ∨ i ∈ ds) → oN P .any ops Q ds (fuel + 1) aQ a w := by
       intro hal hds; refine ⟨fun e => absurd Rw (by rw [e]; exact List.not_mem_nil), fun j hj => ?_⟩; have := HP hl hal j hj; subst this; exact step SD fL hds
     obtain ⟨_, o, KT, _⟩ := mem_ready.1 Rw; have dm : i < ops.size := (Array.getElem?_eq_some_iff.1 KT).1; unfold sZ at hv; rw [gO, Array.getElem?_toList, KT] at hv; obtain ⟨Ps, hv⟩ := aH hv; rw [N.fold_eq] at hv; obtain ⟨bh, h1, h2⟩ := Option.bind_eq_some_iff.1 hv; have KO : ∀ k, o.dst = some k → k < a.tmps.size := fun k hk => by rw [hn]; exact AI vP (by rw [Array.mem_toList_iff]; exact Array.mem_of_getElem? KT) k hk
     have next : ∀ {c' : Cz} {a' : Act} {w' : World}, Rel w0 mu c' bh a' w' → a'.tmps.size = n → oN P .any ops Q ds fuel (aQ.setIfInBounds i true) a' w' := fun hr Lr =>
       (wC hT hE EF hQ hk SC vP l (i :: ls) _ fuel (hl.push dm) (hs.set Rw) hf hr Lr h2).1 fL
     have HN := Region.noSelect_spec SC
     cases kd with
     | one => exact alone (by simpa using KV) (.inl rfl)
     | last =>
       simp only [Bool.false_or, Bool.and_eq_true] at KV; exact alone KV.1 (.inr (zN ds KV.2))
     | any =>
       simp only [Bool.not_false, Bool.true_and] at KV; obtain ⟨v, hy, wv⟩ := zM (P := P) (ops := ops) (C := fun _ => True) h KO h1 (fun e => by
         obtain ⟨v, g1, g2⟩ := KE hT hE h Ps e KO; exact ⟨v, fun w' _ => g1 w', g2⟩)
       refine Jt KT HN (fun c a w hq => absurd hq (hQ _ _ _)) fuel aQ a w (Dv hl KT KV) Rw ?_ (next wv ((rH _ _ _).trans hn)); rcases hy with ⟨g1, g2⟩ | g
       · exact .inl ⟨g1, fun w' => g2 w' trivial⟩
       · exact .inr g
     | take =>
       simp only [Bool.not_false, Bool.true_and, Bool.and_eq_true] at KV; obtain ⟨v, hy, wv⟩ := zM (P := P) (ops := ops) (C := ji w) h KO h1 (fun e => PZ hT h Ps e KO); refine Gi KT HN (fun c a w hq => absurd hq (hQ _ _ _)) ops.size fuel aQ a w (Dv hl KT KV.1) hs (fun d hm G1 => ?_) Rw hy (ji.refl w) (next wv ((rH _ _ _).trans hn)); have h3 := List.all_eq_true.1 KV.2 d hm; rw [hl.gt d, Bool.or_eq_false_iff] at G1; rw [G1.1, Bool.false_or] at h3; exact h3
   · have hj : j = i := by simpa [Pl.cY] using hj
     subst hj; obtain ⟨SD, fL⟩ := first _ hb; refine ⟨(xi hl j).1 SD, step SD fL ?_⟩; unfold k9 at hb; rw [Bool.and_eq_true, Bool.and_eq_true] at hb; obtain ⟨_, KV, _⟩ := hb
     cases kd with
     | one => exact .inl rfl
     | last =>
       simp only [Bool.true_or, Bool.true_and] at KV; exact .inr (zN ds KV)
     | any => simp at KV
     | take => simp at KV
 | .alt p q, ls, aQ, fuel, c, st, a, w, hl, hs, hf, h, hn, hv => by
   have hv : both (sZ T S ops.toList p st k) (sZ T S ops.toList q st k) = some r := hv; obtain ⟨Cp, Jk⟩ := Lj hv; have hf : Nat.max p.depth q.depth ≤ fuel := hf; have hp := (wC (ds := ds) hT hE EF hQ hk SC vP p ls aQ fuel hl hs (Nat.le_trans (Nat.le_max_left _ _) hf) h hn Cp).2; have hq := (wC (ds := ds) hT hE EF hQ hk SC vP q ls aQ fuel hl hs (Nat.le_trans (Nat.le_max_right _ _) hf) h hn Jk).2; have cY : k9 ops ops.toList ops.size ds true ls p = true → k9 ops ops.toList ops.size ds true ls q = true → ∃ HQ, fuel = HQ + 1 ∧ ∀ i ∈ p.cY ++ q.cY, i ∈ Region.ready .any ops aQ ∧ wpOp P ops Q i (fun a' w' => (i ∉ ds → ji w w') ∧ oN P .any ops Q ds HQ (aQ.setIfInBounds i true) a' w') a w := by
     intro h1 h2; obtain ⟨f1, e1, g1⟩ := hp h1; obtain ⟨f2, e2, g2⟩ := hq h2; have : f1 = f2 := by omega
     subst this; exact ⟨f1, e1, fun i hi => (List.mem_append.1 hi).elim (g1 i) (g2 i)⟩
   have parts : ∀ al, k9 ops ops.toList ops.size ds al ls (.alt p q) = true → (al || N8 ops.toList ops.size ls (p.cY ++ q.cY)) = true ∧ k9 ops ops.toList ops.size ds true ls p = true ∧ k9 ops ops.toList ops.size ds true ls q = true := by
     intro al hb; unfold k9 at hb; rw [Bool.and_eq_true, Bool.and_eq_true] at hb; exact hb
   refine ⟨fun hb => ?_, fun hb => ?_⟩
   · obtain ⟨hc, h1, h2⟩ := parts _ hb; obtain ⟨f, rfl, g⟩ := cY h1 h2; have acU : ∀ j ∈ Region.ready .any ops aQ, j ∈ p.cY ++ q.cY := by
       intro j hj; have dm : j < ops.size := by
         obtain ⟨_, o, ho, _⟩ := mem_ready.1 hj; exact (Array.getElem?_eq_some_iff.1 ho).1
       rw [Bool.false_or] at hc; have h1 := List.all_eq_true.1 hc j (List.mem_range.2 dm); rw [(xi hl j).2 hj, Bool.not_true, Bool.false_or] at h1; exact zN _ h1
     refine ⟨fun e => ?_, fun j hj => (g j (acU j hj)).2⟩; have gW : ∃ i, i ∈ p.cY ++ q.cY := by
       have key : ∀ (l : Pl), k9 ops ops.toList ops.size ds true ls l = true → ∃ i, i ∈ l.cY := by
         intro l
         induction l with
         | nil => intro h; simp [k9] at h
         | op i _ _ _ => intro _; exact ⟨i, by simp [Pl.cY]⟩
         | alt p q ih _ =>
           intro h; unfold k9 at h; rw [Bool.and_eq_true, Bool.and_eq_true] at h; obtain ⟨i, hi⟩ := ih h.2.1; exact ⟨i, List.mem_append_left _ hi⟩
       obtain ⟨i, hi⟩ := key p h1; exact ⟨i, List.mem_append_left _ hi⟩
     obtain ⟨i, hi⟩ := gW; have := (g i hi).1; rw [e] at this
     cases this
   · obtain ⟨_, h1, h2⟩ := parts _ hb; exact cY h1 h2
theorem rq {R : Type} {P : Program} {T : lZ} (hT : gX P T) (hE : xq P T) (hm : P.follows .mixedOrders = true) {S : kK} {D : kP} {w0 : World} {mu : Mu} {n : Nat} (EF : sI P T S w0 mu n) :
   rj R P T S D w0 mu n (fun id ops => Du ops (D id) = true) := by
 intro id ops Q k r gI vP hk c st a w h hn hv; unfold Du at gI; rw [Bool.and_eq_true, Bool.and_eq_true] at gI; obtain ⟨SC, hlen, hb⟩ := gI
 let Q' : Exit → Act → World → Prop := fun e a w => e = .normal ∧ Q .normal a w
 have key : (Code.region id ops true).wp P Q' a w := by
   refine wp_region_any hm (xO _ _ _ _ ((wC hT hE EF (ds := Fs (D id)) (Q := Q') (fun c a w hq => by cases hq.1) (fun {c st a w} g1 g2 g3 => ⟨rfl, hk g1 g2 g3⟩) SC vP (D id) [] _ ops.size (Pq.none _) (s9.none _ _ _) (Nat.le_of_ble_eq_true hlen) h.drew hn hv).1 hb))
 exact Code.wp_mono (fun e a w hq => by obtain ⟨rfl, hq⟩ := hq; exact hq) key
end Go.TM
namespace Go.TM
open Go Go.RowKit
abbrev P0 : RT → Type → Type
 | .nil, R => R
 | .cons t r, R => den t → P0 r R
abbrev xj {R : Type} : (r : RT) → P0 r R → aq r → R
 | .nil, f, _ => f
 | .cons _ r, f, x => xj r (f x.1) x.2
def gj : kP := fun _ => .nil
def Ju {R : Type} : nc R := fun _ _ _ _ => none
def N9 (f : Func) : Code := match f.body with | some c => c | none => .skip
def nn : Nat → List (Option AP)
 | 0 => []
 | n + 1 => none :: nn n
structure Rec where
 size : Nat
 agg : Bool
 cm : List (Nat × Nat)
 row : Option RT
 elem : Option (RT × Nat)
 kind : Option Ty
 j2 : List Nat
 eq : Bool
 dp : Bool := false
 cap : Bool := false
inductive Tr where
 | leaf
 | node (l : Tr) (k : Nat) (v : Rec) (r : Tr)
def Tr.xp (l : List Nat) : Tr → Tr
 | .leaf => .leaf
 | .node a k v b => .node (a.xp l) k { v with cap := l.any (Nat.beq k) } (b.xp l)
def Tr.find : Tr → Nat → Option Rec
 | .leaf, _ => none
 | .node l k v r, t => bif Nat.beq t k then some v else bif Nat.blt t k then l.find t else r.find t
def Tr.all (p : Nat → Rec → Bool) : Tr → Bool
 | .leaf => true
 | .node l k v r => l.all p && (p k v && r.all p)
theorem Tr.zO {p : Nat → Rec → Bool} : (tr : Tr) → tr.all p = true → ∀ {t v}, tr.find t = some v → p t v = true
 | .leaf, _, _, _, h => by cases h
 | .node l k v r, h, t, u, hf => by
   unfold Tr.all at h; rw [Bool.and_eq_true, Bool.and_eq_true] at h; unfold Tr.find at hf
   cases hb : Nat.beq t k with
   | true =>
     rw [hb] at hf; injection hf with hf; subst hf; rw [Nat.eq_of_beq_eq_true hb]; exact h.2.1
   | false =>
     rw [hb] at hf
     cases hl : Nat.blt t k with
     | true => rw [hl] at hf; exact Tr.zO l h.1 hf
     | false => rw [hl] at hf; exact Tr.zO r h.2.2 hf
def la (tr : Tr) : lZ where
 cells t := (tr.find t).map (·.size)
 agg t := match tr.find t with | some r => r.agg | none => false
 off t f := match tr.find t with | some r => (nth r.cm f).map (·.1) | none => none
 WQ t f := match tr.find t with | some r => (nth r.cm f).map (·.2) | none => none
 row t := match tr.find t with | some r => r.row | none => none
 elem t := match tr.find t with | some r => r.elem | none => none
 ot _ := none
 kind t := match tr.find t with | some r => r.kind | none => none
 one t f := match tr.find t with | some r => r.j2.any (Nat.beq f) | none => false
 eq t := match tr.find t with | some r => r.eq | none => false
 dp t := match tr.find t with | some r => r.dp | none => false
 cap t := match tr.find t with | some r => r.cap | none => false
def ni : RT → List Value → Bool
 | .nil, [] => true
 | .cons (.int k) r, .int l n :: vs => decide (k = l) && decide (n = 0) && ni r vs
 | .cons .bool r, .bool b :: vs => !b && ni r vs
 | .cons .str r, .string s :: vs => (match s.data.toList with | [] => true | _ => false) && ni r vs
 | .cons (.sl _) r, .slice none 0 0 :: vs => ni r vs
 | _, _ => false
theorem tz : (r : RT) → (vs : List Value) → ni r vs = true → jy r vs
 | .nil, [], _ => rfl
 | .nil, _ :: _, h => by simp [ni] at h
 | .cons t r, [], h => by cases t <;> simp [ni] at h
 | .cons t r, v :: vs, h => by
   cases t with
   | int k =>
     cases v <;> try (simp [ni] at h; done)
     rename_i l n; simp only [ni, Bool.and_eq_true, decide_eq_true_eq] at h; obtain ⟨⟨rfl, rfl⟩, h⟩ := h; exact ⟨vs, rfl, tz r vs h⟩
   | bool =>
     cases v <;> try (simp [ni] at h; done)
     rename_i b; simp only [ni, Bool.and_eq_true, Bool.not_eq_true'] at h; obtain ⟨rfl, h⟩ := h; exact ⟨vs, rfl, tz r vs h⟩
   | str =>
     cases v <;> try (simp [ni] at h; done)
     rename_i s; simp only [ni, Bool.and_eq_true] at h; obtain ⟨h1, h⟩ := h; refine ⟨vs, ?_, tz r vs h⟩; obtain ⟨d⟩ := s; obtain ⟨d⟩ := d
     cases d with
     | nil => rfl
     | cons _ _ => simp at h1
   | sl q =>
     cases v <;> try (simp [ni] at h; done)
     rename_i a n m
     cases a with
     | some _ => simp [ni] at h
     | none => cases n with
       | succ _ => simp [ni] at h
       | zero => cases m with
         | succ _ => simp [ni] at h
         | zero =>
           have h : ni r vs = true := h; exact ⟨vs, rfl, tz r vs h⟩
def sK {α : Type} (o : Option α) (p : α → Bool) : Bool := match o with | some x => p x | none => false
theorem ga {α : Type} {o : Option α} {p : α → Bool} (h : sK o p = true) : ∃ x, o = some x ∧ p x = true := by
 cases o with
 | none => cases h
 | some x => exact ⟨x, rfl, h⟩
def uw (P : Program) : List Field → List (Nat × Nat) → Bool
 | [], [] => true
 | f :: fs, (o, s) :: ps => Nat.beq f.offset o && (sK (P.info? f.type) (fun i => Nat.beq i.size s) && (Nat.blt 0 s && uw P fs ps))
 | _, _ => false
theorem yd {P : Program} : (fs : List Field) → (ps : List (Nat × Nat)) → uw P fs ps = true →
   fs.mapM (fun f => (P.info? f.type).map fun i => (f.offset, i.size)) = some ps ∧ ∀ (k : Nat) p, ps[k]? = some p → ∃ E4 n, fs[k]? = some E4 ∧ E4.offset = p.1 ∧ (P.info? E4.type).map (·.size) = some (n + 1)
 | [], [], _ => ⟨rfl, fun k p h => by simp at h⟩
 | [], _ :: _, h => by simp [uw] at h
 | _ :: _, [], h => by simp [uw] at h
 | f :: fs, (o, s) :: ps, h => by
   unfold uw at h; rw [Bool.and_eq_true, Bool.and_eq_true, Bool.and_eq_true] at h; obtain ⟨h1, h2, h3, h4⟩ := h; obtain ⟨i, hi, Wd⟩ := ga h2; have h1 := Nat.eq_of_beq_eq_true h1; have Wd := Nat.eq_of_beq_eq_true Wd; obtain ⟨g1, g2⟩ := yd fs ps h4; refine ⟨by simp [List.mapM_cons, hi, g1, h1, Wd], fun k p hp => ?_⟩
   cases k with
   | zero =>
     simp at hp; subst hp; have h3 : 0 < s := Nat.le_of_ble_eq_true h3; exact ⟨f, s - 1, rfl, h1, by rw [hi]; simp [Wd]; omega⟩
   | succ k => exact g2 k p (by simpa using hp)
def HR (P : Program) (t : Nat) : Ty → Bool
 | .int k => sK (P.underlying t) fun | .int l => decide (k = l) | _ => false
 | .bool => sK (P.underlying t) fun | .bool => true | _ => false
 | .str => sK (P.underlying t) fun | .string => true | _ => false
 | .sl _ => false
def Gl (P : Program) (t : Nat) (r : Rec) : Bool :=
 sK (P.info? t) (fun i => Nat.beq i.size r.size && (match r.row with | some q => sK i.zero (fun z => ni q z.cells.toList) | none => true)) &&
 (sK (P.underlying t) (fun d => (d.isRow == r.agg) && (bif r.agg then true else Nat.beq r.size 1) && (match d with | .struct fs => bif r.agg then uw P fs.toList r.cm else Nat.beq r.cm.length 0 | _ => !r.agg && Nat.beq r.cm.length 0)
     && (match r.elem with | some (q, b) => (match d with | .slice e => sK (P.info? e) (fun i => Nat.beq i.size q.width && (Nat.blt 0 q.width && (Nat.beq i.bytes b && (Nat.blt 0 b && sK i.zero (fun z => ni q z.cells.toList))))) | _ => false) | none => true)) &&
 ((match r.kind with | some k => HR P t k | none => true) && (match r.elem with | some (.cons (.int .u8) .nil, _) => sK (P.underlying t) (fun d => match d with | .slice e => HR P e (.int .u8) | _ => false) | _ => true)))
def Rx (P : Program) (t : Nat) (l : List Nat) : Bool := l.all fun f => sK (P.underlying t) fun d => match d with | .struct fs => sK fs[f]? (fun E4 => sK (P.underlying E4.type) fun e => !e.isRow) | _ => false
def xP (P : Program) (t : Nat) (r : Rec) : Bool := Gl P t r && Rx P t r.j2
theorem jl {P : Program} {tr : Tr} (h : tr.all (xP P) = true) : gX P (la tr) := by
 have XL : ∀ {t r}, tr.find t = some r → xP P t r = true := fun hf => Tr.zO tr h hf
 have get : ∀ {t r}, tr.find t = some r → Gl P t r = true := fun hf => (Bool.and_eq_true _ _ ▸ XL hf).1
 have base : ∀ {t r}, tr.find t = some r → (∃ i, P.info? t = some i ∧ i.size = r.size ∧ ∀ q, r.row = some q → ∃ z, i.zero = some z ∧ jy q z.cells.toList) ∧
     (∃ d, P.underlying t = some d ∧ d.isRow = r.agg ∧ (r.agg = false → r.size = 1) ∧ (r.cm ≠ [] ∨ r.agg = true → ∃ fs, d = .struct fs ∧ uw P fs.toList r.cm = true) ∧
       ∀ q b, r.elem = some (q, b) → ∃ e i z, d = .slice e ∧ P.info? e = some i ∧ i.size = q.width ∧ 0 < q.width ∧ i.bytes = b ∧ 0 < b ∧ i.zero = some z ∧ jy q z.cells.toList) ∧
     ∀ k, r.kind = some k → HR P t k = true := by
   intro t r hf; have h1 := get hf; unfold Gl at h1; rw [Bool.and_eq_true, Bool.and_eq_true, Bool.and_eq_true] at h1; obtain ⟨h1, h2, h3, _⟩ := h1; obtain ⟨i, hi, h4⟩ := ga h1; rw [Bool.and_eq_true] at h4; obtain ⟨d, hd, h5⟩ := ga h2; rw [Bool.and_eq_true, Bool.and_eq_true, Bool.and_eq_true] at h5; obtain ⟨⟨⟨g1, g2⟩, g3⟩, g4⟩ := h5; refine ⟨⟨i, hi, Nat.eq_of_beq_eq_true h4.1, fun q hq => ?_⟩, ⟨d, hd, by simpa using g1, fun KQ => ?_, fun gW => ?_, fun q b he => ?_⟩, fun k hk => ?_⟩
   · have h6 := h4.2; rw [hq] at h6; obtain ⟨z, hz, h7⟩ := ga h6; exact ⟨z, hz, tz q _ h7⟩
   · rw [KQ] at g2; exact Nat.eq_of_beq_eq_true g2
   · cases KQ : r.agg with
     | true =>
       rw [KQ] at g3
       cases d with
       | struct fs => exact ⟨fs, rfl, g3⟩
       | _ => simp at g3
     | false =>
       rw [KQ] at g3; rcases gW with gW | gW
       · have : Nat.beq r.cm.length 0 = true := by
           cases d with
           | struct fs => exact g3
           | _ => simpa using g3
         exact absurd (List.length_eq_zero_iff.1 (Nat.eq_of_beq_eq_true this)) gW
       · rw [KQ] at gW; cases gW
   · rw [he] at g4
     cases d with
     | slice e =>
       obtain ⟨i, h6, h7⟩ := ga g4; rw [Bool.and_eq_true, Bool.and_eq_true, Bool.and_eq_true, Bool.and_eq_true] at h7; obtain ⟨k1, k2, k3, k4, k5⟩ := h7; obtain ⟨z, hz, h8⟩ := ga k5; exact ⟨e, i, z, rfl, h6, Nat.eq_of_beq_eq_true k1, Nat.le_of_ble_eq_true k2, Nat.eq_of_beq_eq_true k3, Nat.le_of_ble_eq_true k4, hz, tz q _ h8⟩
     | _ => cases g4
   · rw [hk] at h3; exact h3
 have look : ∀ {α : Type} {t : Nat} {g : Rec → Option α} {x : α}, (match tr.find t with | some r => g r | none => none) = some x → ∃ r, tr.find t = some r ∧ g r = some x := by
   intro α t g x hx
   cases hf : tr.find t with
   | none => rw [hf] at hx; cases hx
   | some r => rw [hf] at hx; exact ⟨r, rfl, hx⟩
 have XM : ∀ {t : Nat} {g : Rec → Bool}, (match tr.find t with | some r => g r | none => false) = true → ∃ r, tr.find t = some r ∧ g r = true := by
   intro t g hx
   cases hf : tr.find t with
   | none => rw [hf] at hx; cases hx
   | some r => rw [hf] at hx; exact ⟨r, rfl, hx⟩
 exact {
   cells := fun t n ht => by
     obtain ⟨r, hf, rfl⟩ := Option.map_eq_some_iff.1 ht; obtain ⟨⟨i, hi, hs, _⟩, _⟩ := base hf; rw [hi]; simp [hs]
   agg := fun t n ht => by
     obtain ⟨r, hf, rfl⟩ := Option.map_eq_some_iff.1 ht; obtain ⟨_, ⟨d, hd, h1, h2, _⟩, _⟩ := base hf; have e : (la tr).agg t = r.agg := by show (match tr.find t with | some r => r.agg | none => false) = _; rw [hf]
     exact ⟨d, hd, h1.trans e.symm, fun h => h2 (e ▸ h)⟩
   off := fun t f k ht => by
     obtain ⟨r, hf, hk⟩ := look ht; obtain ⟨p, hp, rfl⟩ := Option.map_eq_some_iff.1 hk; obtain ⟨_, ⟨d, hd, _, _, h3, _⟩, _⟩ := base hf; rw [gO] at hp; obtain ⟨fs, rfl, hfs⟩ := h3 (.inl (by intro e; rw [e] at hp; simp at hp)); obtain ⟨E4, n, g1, g2, g3⟩ := (yd fs.toList r.cm hfs).2 f p hp; exact ⟨fs, E4, n, hd, by simpa using g1, g2, g3⟩
   bld := fun t ht => by
     obtain ⟨r, hf, KQ⟩ := XM (g := fun r => r.agg) ht; obtain ⟨_, ⟨d, hd, _, _, h3, _⟩, _⟩ := base hf; obtain ⟨fs, rfl, hfs⟩ := h3 (.inr KQ); refine ⟨fs, r.cm, hd, (yd fs.toList r.cm hfs).1, fun f o s ho hs => ?_⟩; have ho : (match tr.find t with | some r => (nth r.cm f).map (·.1) | none => none) = some o := ho; have hs : (match tr.find t with | some r => (nth r.cm f).map (·.2) | none => none) = some s := hs; rw [hf] at ho hs; obtain ⟨p, hp, rfl⟩ := Option.map_eq_some_iff.1 ho; obtain ⟨p', j3, rfl⟩ := Option.map_eq_some_iff.1 hs; rw [hp] at j3; injection j3 with e; subst e; rw [gO] at hp; exact hp
   row := fun t q ht => by
     obtain ⟨r, hf, hk⟩ := look (g := fun r => r.row) ht; obtain ⟨⟨i, hi, _, h1⟩, _⟩ := base hf; obtain ⟨z, hz, Lu⟩ := h1 q hk; exact ⟨i, z, hi, hz, Lu⟩
   elem := fun t q b ht => by
     obtain ⟨r, hf, hk⟩ := look (g := fun r => r.elem) ht; obtain ⟨_, ⟨d, hd, _, _, _, h4⟩, _⟩ := base hf; obtain ⟨e, i, z, rfl, h5⟩ := h4 q b hk; exact ⟨e, i, z, hd, h5⟩
   u8 := fun t e b ht hu => by
     obtain ⟨r, hf, hk⟩ := look (g := fun r => r.elem) ht; have h1 := get hf; unfold Gl at h1; rw [Bool.and_eq_true, Bool.and_eq_true, Bool.and_eq_true] at h1; have h2 := h1.2.2.2; rw [hk] at h2; obtain ⟨d, hd, h3⟩ := ga h2; rw [hu] at hd; injection hd with hd; subst hd; obtain ⟨d2, hd2, h4⟩ := ga h3; rw [hd2]
     cases d2 <;> simp at h4
     rw [← h4]
   one := fun t f ht => by
     have ht : (match tr.find t with | some r => r.j2.any (Nat.beq f) | none => false) = true := ht
     cases hf : tr.find t with
     | none => rw [hf] at ht; cases ht
     | some r =>
       rw [hf] at ht; have h2 : Rx P t r.j2 = true := (Bool.and_eq_true _ _ ▸ XL hf).2; obtain ⟨g, hg, hb⟩ := List.any_eq_true.1 ht; have hb := Nat.eq_of_beq_eq_true hb; subst hb; have h3 := List.all_eq_true.1 h2 f hg; obtain ⟨d, hd, h4⟩ := ga h3
       cases d with
       | struct fs =>
         obtain ⟨E4, acW, h5⟩ := ga h4; obtain ⟨e, he, h6⟩ := ga h5; exact ⟨fs, E4, e, hd, acW, he, by simpa using h6⟩
       | _ => cases h4
   kind := fun t y ht => by
     obtain ⟨r, hf, hk⟩ := look (g := fun r => r.kind) ht; have h1 := (base hf).2.2 y hk
     cases y with
     | int k =>
       obtain ⟨d, hd, h2⟩ := ga h1; refine ⟨d, hd, ?_⟩
       cases d <;> simp at h2
       rw [h2]; rfl
     | bool =>
       obtain ⟨d, hd, h2⟩ := ga h1; refine ⟨d, hd, ?_⟩
       cases d <;> simp at h2
       rfl
     | str =>
       obtain ⟨d, hd, h2⟩ := ga h1; refine ⟨d, hd, ?_⟩
       cases d <;> simp at h2
       rfl
     | sl _ => cases h1 }
end Go.TM
namespace Go.TM
open Go Go.RowKit
def ee : Code → List (Nat × Code)
 | .seq a b => ee a ++ ee b
 | .cond _ a b => ee a ++ ee b
 | .block id (.loop b) => [(id, b)]
 | .block _ a => ee a
 | _ => []
theorem qP {ok : Nat → Code → Prop} : (c : Code) → (∀ p ∈ ee c, ok p.1 p.2) → ej ok c := by
 intro c
 induction c with
 | seq a b SE SF =>
   intro h; unfold ee at h; exact ⟨SE fun p hp => h p (List.mem_append_left _ hp), SF fun p hp => h p (List.mem_append_right _ hp)⟩
 | cond x a b SE SF =>
   intro h; unfold ee at h; exact ⟨SE fun p hp => h p (List.mem_append_left _ hp), SF fun p hp => h p (List.mem_append_right _ hp)⟩
 | block id a ih =>
   intro h
   by_cases hb : ∃ b', a = .loop b'
   · obtain ⟨b', rfl⟩ := hb; exact h (id, b') (by unfold ee; exact List.mem_cons_self)
   · cases a with
     | loop b' => exact absurd ⟨b', rfl⟩ hb
     | _ => unfold ee at h; unfold ej; exact ih h
 | _ => intro _; unfold ej; trivial
def P1 (c : Code) (i : Nat) : Code := match nth (ee c) i with | some p => p.2 | none => .skip
def jL (D : kP) : Code → Bool
 | .region id ops true => Du ops (D id)
 | .seq a b => jL D a && jL D b
 | .cond _ a b => jL D a && jL D b
 | .block _ (.loop _) => true
 | .block _ a => jL D a
 | _ => true
theorem sL {D : kP} : (c : Code) → jL D c = true → eN (fun id ops => Du ops (D id) = true) c := by
 intro c
 induction c with
 | region id ops dr =>
   intro h
   cases dr with
   | true => exact h
   | false => unfold eN; trivial
 | seq a b SE SF =>
   intro h; unfold jL at h; rw [Bool.and_eq_true] at h; exact ⟨SE h.1, SF h.2⟩
 | cond x a b SE SF =>
   intro h; unfold jL at h; rw [Bool.and_eq_true] at h; exact ⟨SE h.1, SF h.2⟩
 | block id a ih =>
   intro h
   by_cases hb : ∃ b', a = .loop b'
   · obtain ⟨b', rfl⟩ := hb; unfold eN; trivial
   · cases a with
     | loop b' => exact absurd ⟨b', rfl⟩ hb
     | _ => unfold jL at h; unfold eN; exact ih h
 | _ => intro _; unfold eN; trivial
def Src.same : Src → Src → Bool
 | .tmp a, .tmp b => Nat.beq a b
 | .cell a, .cell b => Nat.beq a b
 | .ptr a, .ptr b => Nat.beq a b
 | _, _ => false
theorem Src.zP : {a b : Src} → a.same b = true → a = b
 | .tmp _, .tmp _, h => congrArg Src.tmp (Nat.eq_of_beq_eq_true h)
 | .cell _, .cell _, h => congrArg Src.cell (Nat.eq_of_beq_eq_true h)
 | .ptr _, .ptr _, h => congrArg Src.ptr (Nat.eq_of_beq_eq_true h)
 | .tmp _, .cell _, h => by cases h
 | .tmp _, .ptr _, h => by cases h
 | .cell _, .tmp _, h => by cases h
 | .cell _, .ptr _, h => by cases h
 | .ptr _, .tmp _, h => by cases h
 | .ptr _, .cell _, h => by cases h
def HS (T : lZ) : List ResultVar → List RP → Bool
 | [], [] => true
 | .tmp t :: vs, r :: rs => (r.src.same (.tmp t) || r.src.same (.ptr t)) && HS T vs rs
 | .cell t ty :: vs, r :: rs => r.src.same (.cell t) && ((match T.cells ty with | some n => Nat.beq n r.ps.length | none => false) && ((T.agg ty == r.agg) && HS T vs rs))
 | _, _ => false
theorem xk {T : lZ} (tm : Array Value) : (vs : List ResultVar) → (rs : List RP) → HS T vs rs = true → x9 T tm vs rs
 | [], [], _ => trivial
 | [], _ :: _, h => by simp [HS] at h
 | v :: _, [], h => by cases v <;> simp [HS] at h
 | .tmp t :: vs, r :: rs, h => by
   unfold HS at h; rw [Bool.and_eq_true, Bool.or_eq_true] at h; exact ⟨h.1.imp Src.zP Src.zP, xk tm vs rs h.2⟩
 | .cell t ty :: vs, r :: rs, h => by
   unfold HS at h; rw [Bool.and_eq_true, Bool.and_eq_true, Bool.and_eq_true] at h; obtain ⟨h1, h2, h3, h4⟩ := h; refine ⟨⟨Src.zP h1, ?_, by simpa using h3⟩, xk tm vs rs h4⟩
   cases hc : T.cells ty with
   | none => rw [hc] at h2; cases h2
   | some n => rw [hc] at h2; rw [Nat.eq_of_beq_eq_true h2]
abbrev SG := List (Nat × (Pm × Pm × Pm × vW))
def yf : SG → kK
 | [], _ => none
 | (g, s) :: l, f => bif Nat.beq f g then some s else yf l f
structure qI (P : Program) (f : FuncId) (Bo : vW) : Prop where
 ok : FnOk P f Bo
 fn : ∃ fn, P.funcs[f]? = some fn ∧ (fn.name == "runtime.NumGoroutine") = false ∧ fn.body.isNone = false
theorem Oa {P : Program} : ma P (yf []) := fun f a b c Bo h => by cases h
theorem LZ {P : Program} {g : Nat} {a b c : Pm} {Bo : vW} {l : SG} (hk : qI P g Bo) (hl : ma P (yf l)) : ma P (yf ((g, (a, b, c, Bo)) :: l)) := by
 intro f a' b' c' acX h; unfold yf at h
 cases hb : Nat.beq f g with
 | true =>
   rw [hb] at h; injection h with h; injection h with _ h; injection h with _ h; injection h with _ h; subst h; rw [Nat.eq_of_beq_eq_true hb]; exact ⟨hk.ok, hk.fn⟩
 | false => rw [hb] at h; exact hl f a' b' c' acX h
def Ry (T : lZ) (D : kP) (fn : Func) (code : Code) (n : Nat) (ps : List AP) (rs : List RP) : Bool :=
 Nat.beq fn.ntmps n && (Nat.ble ps.length n && (fM n code && (HS T fn.results.toList rs && jL D code)))
theorem P2 {P : Program} {tr : Tr} (hT : tr.all (xP P) = true) (hE : xq P (la tr)) (hm : P.follows .mixedOrders = true) {S : kK} (hS : ma P S) {D : kP} {f : FuncId} {fn : Func} {code : Code} {n : Nat} {ps : List AP} {rs : List RP}
   {L : nc (aq (dj rs (bU ps)))} {t : aq (az (ps.map some)) → Option (aq (dj rs (bU ps)))}
   (hf : P.funcs[f]? = some fn) (hb : fn.body = some code) (ql : Ry (la tr) D fn code n ps rs = true) (HT : (fn.name == "runtime.NumGoroutine") = false)
   (hL : ∀ (w0 : World) (mu : Mu) (y : aq (dj rs (bU ps))), mJ ps mu → ∀ p ∈ ee code, mT P w0 mu n L y p.1 p.2)
   (Jp : ∀ x, fD (la tr) S D L code (start n ps x) (Ci rs ps) = t x) : qI P f (mA ps rs t) := by
 unfold Ry at ql; rw [Bool.and_eq_true, Bool.and_eq_true, Bool.and_eq_true, Bool.and_eq_true] at ql; obtain ⟨h1, h2, h3, h4, h5⟩ := ql; refine ⟨XI (jl hT) hE hS hf hb (Nat.eq_of_beq_eq_true h1) (Nat.le_of_ble_eq_true h2) h3 (fun tm => xk tm _ _ h4) (fun w0 mu y hs => qP code (hL w0 mu y hs))
   (fun w0 mu => rq (jl hT) hE hm (nI (jl hT) hE hS w0 mu n)) (sL code h5) Jp, fn, hf, HT, by rw [hb]; rfl⟩
def HU (D : kP) (ps : List AP) (hp e0 e1 : List (Option AP)) (n : Nat) (b : Code) : Bool :=
 (fN ps hp && (fN ps e0 && fN ps e1)) && (fM n b && jL D b)
theorem L0 {R : Type} {P : Program} {tr : Tr} (hT : tr.all (xP P) = true) (hE : xq P (la tr)) (hm : P.follows .mixedOrders = true) {S : kK} (hS : ma P S) {D : kP} {n id : Nat} {w0 : World} {mu : Mu} {ps : List AP} {hp e0 e1 : List (Option AP)} {b : Code} {r : R} {L : nc R}
   {L' : nc (Sum (aq (az hp)) (Sum (aq (az e0)) (aq (az e1))))} {round : aq (az hp) → Option (Sum (aq (az hp)) (Sum (aq (az e0)) (aq (az e1))))}
   (hs : mJ ps mu) (ql : HU D ps hp e0 e1 n b = true)
   (CW : ∀ z, ∀ p ∈ ee b, mT P w0 mu n L' z p.1 p.2) (Jq : ∀ x, fD (la tr) S D L' b (nK hp x) (Dt id hp e0 e1) = round x) (hL : ∀ st k, L id b st k = AU hp e0 e1 round st k) : mT P w0 mu n L r id b := by
 unfold HU at ql; rw [Bool.and_eq_true, Bool.and_eq_true (fM n b)] at ql; exact PW (nI (jl hT) hE hS w0 mu n) (rq (jl hT) hE hm (nI (jl hT) hE hS w0 mu n)) hs ql.1 ql.2.1 (sL b ql.2.2) (fun z => qP b (CW z)) Jq hL
def dK {A B C : Type} (o : Option (Sum A B)) (f : A → Option C) (g : B → Option C) : Option C :=
 o.bind fun z => match z with
   | .inl y => f y
   | .inr y => g y
end Go.TM
namespace Go.TM
open Go Go.RowKit Go.ChangeShapes
def RT.app : RT → RT → RT
 | .nil, s => s
 | .cons t r, s => .cons t (r.app s)
def P3 : (r s : RT) → aq r → aq s → aq (r.app s)
 | .nil, _, _, y => y
 | .cons _ r, s, x, y => (x.1, P3 r s x.2 y)
mutual
def zQ : (t : Ty) → den t → Prop
 | .int k, n => (Lit.int k n).wf = true
 | .bool, _ => True
 | .str, s => ByteArray.size s ≤ maxLen
 | .sl r, xs => (Kv xs).length ≤ maxLen ∧ ∀ x ∈ Kv xs, zR r x
def zR : (r : RT) → aq r → Prop
 | .nil, _ => True
 | .cons t r, x => zQ t x.1 ∧ zR r x.2
end
theorem Dw (x : aq .nil) : zR .nil x := zR.eq_1 x ▸ trivial
theorem aa {t : Ty} {r : RT} {x : aq (.cons t r)} : zR (.cons t r) x ↔ zQ t x.1 ∧ zR r x.2 := zR.eq_2 t r x ▸ Iff.rfl
theorem Rz {k : IntKind} {n : Int} : zQ (.int k) n ↔ (Lit.int k n).wf = true := zQ.eq_1 k n ▸ Iff.rfl
theorem SH {b : Bool} : zQ .bool b := zQ.eq_2 b ▸ trivial
theorem RA {s : ByteArray} : zQ .str s ↔ ByteArray.size s ≤ maxLen := zQ.eq_3 s ▸ Iff.rfl
theorem P4 {r : RT} {xs : List (aq r)} : zQ (.sl r) xs ↔ (xs.length ≤ maxLen ∧ ∀ x ∈ xs, zR r x) := zQ.eq_4 r xs ▸ Iff.rfl
theorem RT.AX : (r s : RT) → (r.app s).width = r.width + s.width
 | .nil, s => by simp [RT.app, RT.width]
 | .cons t r, s => by simp [RT.app, RT.width, RT.AX r s]; omega
theorem dD.cat {w : World} {ok : Nat → Prop} : (r s : RT) → (l m : List Value) → (x : aq r) → (y : aq s) → dD w ok r l x → dD w ok s m y → dD w ok (r.app s) (l ++ m) (P3 r s x y)
 | .nil, s, l, m, x, y, h, h' => by
   have : l = [] := h; subst this; exact h'
 | .cons t r, s, l, m, x, y, h, h' => by
   obtain ⟨v, l', rfl, h1, h2⟩ := h; exact ⟨v, l' ++ m, rfl, h1, dD.cat r s l' m x.2 y h2 h'⟩
theorem zR.cat : (r s : RT) → (x : aq r) → (y : aq s) → zR r x → zR s y → zR (r.app s) (P3 r s x y)
 | .nil, _, _, _, _, h' => h'
 | .cons t r, s, x, y, h, h' => by
   exact aa.2 ⟨(aa.1 h).1, zR.cat r s x.2 y (aa.1 h).2 h'⟩
def Dx (P : Program) (row : TypeId → Option RT) : Nat → List Field → Option RT
 | _, [] => some .nil
 | off, f :: fs => match row f.type with
   | some q => (match Dx P row (off + q.width) fs with
     | some r => bif Nat.beq f.offset off && Nat.beq (P.cellsOf f.type) q.width then some (q.app r) else none
     | none => none)
   | none => none
def Dy (P : Program) : Nat → TypeId → Option RT
 | 0, _ => none
 | n + 1, t => match P.underlying t with
   | some .bool => some (.cons .bool .nil)
   | some (.int k) => some (.cons (.int k) .nil)
   | some .string => some (.cons .str .nil)
   | some (.slice e) => (match Dy P n e with
     | some q => bif Nat.beq (P.cellsOf e) q.width && Nat.blt 0 q.width then some (.cons (.sl q) .nil) else none
     | none => none)
   | some (.struct fs) => (match Dx P (Dy P n) 0 fs.toList with
     | some r => bif Nat.beq (P.cellsOf t) r.width then some r else none
     | none => none)
   | _ => none
theorem KW {α : Type} {Pr : Nat → α → Prop} : (n : Nat) → (∀ i, i < n → ∃ x, Pr i x) → ∃ xs : List α, xs.length = n ∧ ∀ (i : Nat) x, xs[i]? = some x → Pr i x
 | 0, _ => ⟨[], rfl, fun i x h => by simp at h⟩
 | n + 1, h => by
   obtain ⟨xs, h1, h2⟩ := KW n (fun i hi => h i (by omega)); obtain ⟨x, hx⟩ := h n (by omega); refine ⟨xs ++ [x], by simp [h1], fun i y hy => ?_⟩
   by_cases hi : i < n
   · rw [List.getElem?_append_left (by omega)] at hy; exact h2 i y hy
   · rw [List.getElem?_append_right (by omega)] at hy; have CW : i = n := by
       have := (List.getElem?_eq_some_iff.1 hy).1; simp at this; omega
     subst CW; rw [h1, Nat.sub_self] at hy; simp at hy; rw [← hy]; exact hx
theorem Ft {w : World} {a : Addr} {v : Value} (h : w.cell? a = some v) : a.spot = none := by
 unfold World.cell? at h
 split at h
 · split at h
   · cases h
   · rename_i hs; simpa using hs
 · cases h
theorem HV {α β : Type} {f : α → Option β} : (l : List α) → {m : List β} → l.mapM f = some m → m.length = l.length ∧ ∀ (i : Nat) a, l[i]? = some a → f a = m[i]?
 | [], m, h => by
   simp at h; subst h; exact ⟨rfl, fun i a ha => by simp at ha⟩
 | a :: l, m, h => by
   rw [List.mapM_cons] at h
   cases ha : f a with
   | none => simp [ha] at h
   | some b =>
     cases hl : l.mapM f with
     | none => simp [ha, hl] at h
     | some m' =>
       simp [ha, hl] at h; subst h; obtain ⟨h1, h2⟩ := HV l hl; refine ⟨by simp [h1], fun i x hx => ?_⟩
       cases i with
       | zero => simp at hx; subst hx; simpa using ha
       | succ i => simpa using h2 i x (by simpa using hx)
theorem BI {w : World} {base n : Nat} {a : Addr} {vs : List Value} (h : w.cells? base a n = some vs) : vs.length = n ∧ w.rangeAt a.block a.off vs ∧ (0 < n → a.spot = none) := by
 unfold World.cells? at h
 split at h
 · obtain ⟨h1, h2⟩ := HV _ h; simp at h1; have each : ∀ j v, vs[j]? = some v → w.cell? (a.add j) = some v := by
     intro j v hv; have hj : j < n := by
       have := (List.getElem?_eq_some_iff.1 hv).1; omega
     rw [h2 j j (by simp [hj]), hv]
   refine ⟨h1, fun j v hv => ?_, fun hn => ?_⟩
   · have := each j v hv; have hs := Ft this; have e : a.add j = ⟨a.block, a.off + j, none⟩ := by
       unfold Addr.add at hs ⊢
       split
       · rename_i h0; subst h0; rw [if_pos rfl] at hs; obtain ⟨b, o, s⟩ := a; simp at hs; subst hs; rfl
       · rfl
     rw [← e]; exact this
   · have dm : 0 < vs.length := by omega
     have := each 0 vs[0] (by simp [dm]); have hs := Ft this; simpa [Addr.add] using hs
 · cases h
theorem Fu {P : Program} {w : World} {cs : List Value} {row : TypeId → Option RT} : (fs : List Field) → (off : Nat) → (r : RT) → Dx P row off fs = some r →
   (∀ f ∈ fs, ∀ q, row f.type = some q → ∃ x : aq q, dD w (fun _ => True) q ((cs.drop f.offset).take (P.cellsOf f.type)) x ∧ zR q x) → off + r.width ≤ cs.length →
   ∃ x : aq r, dD w (fun _ => True) r ((cs.drop off).take r.width) x ∧ zR r x
 | [], off, r, h, _, _ => by
   simp only [Dx, Option.some.injEq] at h; subst h; exact ⟨(), by simp [RT.width, dD], Dw _⟩
 | f :: fs, off, r, h, hf, hl => by
   unfold Dx at h
   cases hq : row f.type with
   | none => simp [hq] at h
   | some q =>
     simp only [hq] at h
     cases hr : Dx P row (off + q.width) fs with
     | none => simp [hr] at h
     | some r' =>
       simp only [hr] at h; obtain ⟨h1, h2⟩ := aH h; injection h2 with h2; subst h2; rw [Bool.and_eq_true] at h1; have ho := Nat.eq_of_beq_eq_true h1.1; have hc := Nat.eq_of_beq_eq_true h1.2; rw [RT.AX] at hl; obtain ⟨x, I8, EE⟩ := hf f List.mem_cons_self q hq; obtain ⟨y, hy1, hy2⟩ := Fu fs (off + q.width) r' hr (fun g hg => hf g (List.mem_cons_of_mem _ hg)) (by omega); refine ⟨P3 q r' x y, ?_, zR.cat q r' x y EE hy2⟩; rw [RT.AX, List.take_add, List.drop_drop]; rw [ho, hc] at I8; exact dD.cat q r' _ _ x y I8 hy1
theorem Gm {H : Type} {enc : TypeId × Value → H} {P : Program} {w : World} {base : Nat} {spare : Nat → Bool} {held : Bool} : (n : Nat) → ∀ {t : TypeId} {r : RT} {fuel : Nat} {cs : List Value} {y : DataW H × List MemPlace}, Dy P n t = some r →
   DataW.trod enc P w base spare held fuel t cs = some y → ∃ x : aq r, dD w (fun _ => True) r cs x ∧ zR r x
 | 0, _, _, _, _, _, h, _ => by cases h
 | n + 1, t, r, fuel, cs, y, h, hd => by
   unfold Dy at h
   cases hu : P.underlying t with
   | none => simp [hu] at h
   | some d =>
     cases d with
     | bool =>
       simp only [hu, Option.some.injEq] at h; subst h; obtain ⟨b, rfl, _⟩ := DataW.trod_bool hu hd; exact ⟨((b : Bool), ()), ⟨_, _, rfl, sD.2 rfl, rfl⟩, aa.2 ⟨SH, Dw _⟩⟩
     | int k =>
       simp only [hu, Option.some.injEq] at h; subst h; obtain ⟨m, rfl, _, hw⟩ := DataW.trod_int hu hd; exact ⟨((m : Int), ()), ⟨_, _, rfl, rD.2 rfl, rfl⟩, aa.2 ⟨Rz.2 hw, Dw _⟩⟩
     | string =>
       simp only [hu, Option.some.injEq] at h; subst h; obtain ⟨s, rfl, _, hw⟩ := DataW.trod_string hu hd; exact ⟨((s : ByteArray), ()), ⟨_, _, rfl, vZ.2 rfl, rfl⟩, aa.2 ⟨RA.2 hw, Dw _⟩⟩
     | slice e =>
       simp only [hu] at h
       cases hq : Dy P n e with
       | none => simp [hq] at h
       | some q =>
         simp only [hq] at h; obtain ⟨h1, h2⟩ := aH h; injection h2 with h2; subst h2; rw [Bool.and_eq_true] at h1; have hw := Nat.eq_of_beq_eq_true h1.1; have NS : 0 < q.width := Nat.le_of_ble_eq_true h1.2; rcases DataW.trod_slice hu hd with ⟨rfl, _⟩ | ⟨a, len, cap, elems, rest, m, _, rfl, _, hb, hl, hm, hlen, L1, _, _⟩
         · exact ⟨(([] : List (aq q)), ()), ⟨_, _, rfl, (oE _ _ _ _ _).2 (.inl ⟨rfl, rfl⟩), rfl⟩, aa.2 ⟨P4.2 ⟨Nat.zero_le _, fun x hx => by cases hx⟩, Dw _⟩⟩
         · have each : ∀ i, i < len → ∃ x : aq q, (dw w (fun _ => True) q a.block (a.off + i * q.width) x ∧ zR q x) ∧ a.spot = none ∧ a.block < w.heap.size := by
             intro i hi; have h3 := L1 i hi; rw [List.getElem?_eq_getElem (by omega), Option.bind_eq_some_iff] at h3; obtain ⟨vs, zn, hy⟩ := h3; obtain ⟨x, hx, hs⟩ := Gm n hq hy; obtain ⟨g1, g2, g3⟩ := BI zn; have V9 : (a.add (i * P.cellsOf e)).block = a.block := by unfold Addr.add; split <;> rfl
             have hof : (a.add (i * P.cellsOf e)).off = a.off + i * q.width := by
               unfold Addr.add; rw [hw]
               split
               · rename_i h0; rw [h0]; rfl
               · rfl
             rw [V9, hof] at g2; refine ⟨x, ⟨(nF q _ _ x).2 ⟨vs, g2, hx⟩, hs⟩, ?_, ?_⟩
             · have h4 := L1 0 (by omega); rw [List.getElem?_eq_getElem (by omega), Option.bind_eq_some_iff] at h4; obtain ⟨vs0, acZ, _⟩ := h4; have := (BI acZ).2.2 (by omega); simpa [Addr.add] using this
             · have dm : 0 < vs.length := by omega
               have h5 := Kw (g2 0 vs[0] (by simp [dm])); exact h5
           obtain ⟨xs, I8, EE⟩ := KW len each; refine ⟨((xs : List (aq q)), ()), ⟨_, _, rfl, (oE _ _ _ _ _).2 (.inr ⟨a, cap, by rw [I8], by rw [I8]; exact hl, fun gW => ?_, fun i x hi => (EE i x hi).1.1⟩), rfl⟩, ?_⟩
           · have dm : 0 < xs.length := List.length_pos_iff.2 gW; have := (EE 0 xs[0] (by simp [dm])).2; exact ⟨this.1, this.2, trivial⟩
           · refine aa.2 ⟨P4.2 ⟨by show xs.length ≤ maxLen; omega, fun x hx => ?_⟩, Dw _⟩; obtain ⟨i, hi⟩ := List.getElem?_of_mem hx; exact (EE i x hi).1.2
     | struct fs =>
       simp only [hu] at h
       cases hq : Dx P (Dy P n) 0 fs.toList with
       | none => simp [hq] at h
       | some q =>
         simp only [hq] at h; obtain ⟨h1, h2⟩ := aH h; injection h2 with h2; subst h2; have hw := Nat.eq_of_beq_eq_true h1; obtain ⟨xs, m, _, _, hlen, Rr, L1⟩ := DataW.trod_struct hu hd; obtain ⟨x, g1, g2⟩ := Fu (w := w) (cs := cs) fs.toList 0 q hq (fun f hf p hp => by
           obtain ⟨i, hi⟩ := List.getElem?_of_mem hf; rw [Array.getElem?_toList] at hi; have h3 := L1 i f hi; have dm : i < fs.size := (Array.getElem?_eq_some_iff.1 hi).1; rw [List.getElem?_eq_getElem (by omega)] at h3; exact Gm n hp h3) (by omega)
         refine ⟨x, ?_, g2⟩; have : (cs.drop 0).take q.width = cs := by rw [List.drop_zero, List.take_of_length_le (by omega)]
         rwa [this] at g1
     | _ => simp [hu] at h
end Go.TM
