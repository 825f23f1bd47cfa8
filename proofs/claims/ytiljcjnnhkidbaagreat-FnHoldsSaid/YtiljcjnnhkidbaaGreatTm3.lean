/- A machine over trees: an evaluator of the code, and that what it finds is so; part 3. -/
import Derived.Test.YtiljcjnnhkidbaaGreatTm2
import Derived.Laws.Sem
import Derived.Deep.LoopGhost
import Derived.OrdersHeld
import Derived.KernelRfl
namespace Go.TM
open Go Go.RowKit
def tM (st : St) (n : Nat × Nat) : Prop := ∃ g A, aQ st n.1 n.2 g = some A ∧ A.md.Dj = false
theorem JF {st : St} {own : Bool} {x : CV} {o : OV} {u : Option Lb} {r : List (Nat × Nat)} (h : eW st own x = some (o, u, r)) : (∀ s j, u = some (.sp s j) → tM st (s, j)) ∧ ∀ p ∈ r, tM st p := by
 cases x with
 | ref a j g w =>
   unfold eW at h; simp only at h
   cases hA : aQ st a j g with
   | none => simp [hA] at h
   | some A =>
     simp only [hA] at h
     cases hm : A.md.Dj with
     | true => simp [hm] at h
     | false =>
     have uY := hm; simp only [hm, cond_false] at h
     cases hb : (own && A.own && (A.md.is .sh || w.isFull)) <;> simp only [hb, cond_true, cond_false, Option.some.injEq, Prod.mk.injEq] at h <;> obtain ⟨_, rfl, rfl⟩ := h
     · exact ⟨by simp, fun p hp => by simp at hp; subst hp; exact ⟨g, A, hA, uY⟩⟩
     · refine ⟨fun s k e => ?_, by simp⟩; simp only [Option.some.injEq, Lb.sp.injEq] at e; obtain ⟨rfl, rfl⟩ := e; exact ⟨g, A, hA, uY⟩
 | mX a j g e i k q ys =>
   unfold eW at h; simp only at h
   cases hA : aQ st a j g with
   | none => simp [hA] at h
   | some A =>
     simp only [hA] at h; obtain ⟨h1, h⟩ := aD h; rw [Bool.and_eq_true] at h1; have hm := Md.kq.1 h1.1; simp only [Option.some.injEq, Prod.mk.injEq] at h; obtain ⟨_, rfl, rfl⟩ := h; exact ⟨by simp, fun p hp => by simp at hp; subst hp; exact ⟨g, A, hA, by rw [hm]; rfl⟩⟩
 | ke q y off => obtain ⟨_, rfl, rfl⟩ := tH h; simp
 | qi q y off => obtain ⟨_, rfl, rfl⟩ := qG h; simp
 | _ => simp [eW] at h <;> (try (obtain ⟨_, rfl, rfl⟩ := h; simp))
theorem qJ {st : St} {own : Bool} : (cs : List CV) → {os : List OV} → {u : List (Option Lb)} → {r : List (Nat × Nat)} → ei st own cs = some (os, u, r) → (∀ s j, .sp s j ∈ bu u → tM st (s, j)) ∧ ∀ p ∈ r, tM st p
 | [], _, _, _, h => by
   simp only [ei, Option.some.injEq, Prod.mk.injEq] at h; obtain ⟨_, rfl, rfl⟩ := h; simp [bu]
 | x :: cs, os, u, r, h => by
   unfold ei at h
   cases hc : eW st own x with
   | none => simp [hc] at h
   | some p =>
     obtain ⟨o, u1, r1⟩ := p
     cases hq : ei st own cs with
     | none => simp [hc, hq] at h
     | some q =>
       obtain ⟨xi, us, rs⟩ := q; simp only [hc, hq, Option.some.injEq, Prod.mk.injEq] at h; obtain ⟨_, rfl, rfl⟩ := h; obtain ⟨a1, a2⟩ := JF hc; obtain ⟨b1, b2⟩ := qJ cs hq; refine ⟨fun s j hm => ?_, fun p hp => ?_⟩
       · rw [fE] at hm; rcases List.mem_cons.1 hm with hm | hm
         · exact a1 s j hm.symm
         · exact b1 s j (fE.2 hm)
       · rcases List.mem_append.1 hp with hp | hp
         · exact a2 p hp
         · exact b2 p hp
theorem E2 {st : St} {m : Pm} {v : V} {av : AV} {u q : List Lb} {r : List (Nat × Nat)} (h : dE st m v = some (av, u, q, r)) : (∀ s j, .sp s j ∈ u → tM st (s, j)) ∧ ∀ p ∈ r, tM st p := by
 have single : ∀ own cs ag, (match ei st own cs with | some (os, u, r) => some (AV.val ag os, bu u, bu u, r) | none => none) = some (av, u, q, r) → (∀ s j, .sp s j ∈ u → tM st (s, j)) ∧ ∀ p ∈ r, tM st p := by
   intro own cs ag h
   cases hq : ei st own cs with
   | none => simp [hq] at h
   | some p =>
     obtain ⟨os, us, rs⟩ := p; simp only [hq, Option.some.injEq, Prod.mk.injEq] at h; obtain ⟨_, rfl, rfl, rfl⟩ := h; exact qJ cs hq
 cases v with
 | kX _ => simp [dE] at h
 | agg cs =>
   unfold dE at h
   cases m with
   | shr => exact single _ _ _ h
   | own => exact single _ _ _ h
   | pick _ => exact single _ _ _ h
   | io => exact single _ _ _ h
   | bp =>
     simp only at h
     cases hq : ei st true cs with
     | none => simp [hq] at h
     | some p =>
       obtain ⟨os, us, rs⟩ := p; simp only [hq] at h; obtain ⟨_, h1⟩ := aD h; simp only [Option.some.injEq, Prod.mk.injEq] at h1; obtain ⟨_, rfl, _, rfl⟩ := h1; exact qJ cs hq
 | one cx =>
   cases cx with
   | ptr b g off =>
     unfold dE at h; simp only at h
     cases hb : de st b g with
     | none => simp [hb] at h
     | some cs =>
       simp only [hb] at h
       cases hq : ei st true cs with
       | none => simp [hq] at h
       | some p =>
         obtain ⟨os, us, rs⟩ := p; simp only [hq] at h; obtain ⟨_, h1⟩ := aD h; simp only [Option.some.injEq, Prod.mk.injEq] at h1; obtain ⟨_, rfl, rfl, rfl⟩ := h1; obtain ⟨a1, a2⟩ := qJ cs hq; refine ⟨fun s j hm => ?_, a2⟩; rcases List.mem_cons.1 hm with hm | hm
         · cases hm
         · exact a1 s j hm
   | ref s j g vw =>
     unfold dE at h
     cases m with
     | shr => exact single _ _ _ h
     | own => exact single _ _ _ h
     | pick _ => exact single _ _ _ h
     | bp => exact single _ _ _ h
     | io =>
       cases vw with
       | full =>
         cases hA : aQ st s j g with
         | none => simp [hA] at h
         | some A =>
           simp only [hA] at h; obtain ⟨hb, h1⟩ := aD h; simp only [Option.some.injEq, Prod.mk.injEq] at h1; obtain ⟨_, rfl, _, rfl⟩ := h1; refine ⟨fun s' j' hm => ?_, by simp⟩; simp at hm; obtain ⟨rfl, rfl⟩ := hm; rw [Bool.and_eq_true] at hb; exact ⟨g, A, hA, by cases hh : A.md.Dj <;> simp_all⟩
       | «from» _ => simp at h
       | sub _ _ => simp at h
   | _ =>
     unfold dE at h; simp only at h
     split at h
     · rename_i os us rs hq; simp only [Option.some.injEq, Prod.mk.injEq] at h; obtain ⟨_, rfl, _, rfl⟩ := h; exact qJ _ hq
     · cases h
theorem yV {st : St} : (ms : List (Pm × V)) → {cT : List AV} → {u q : List Lb} → {r : List (Nat × Nat)} → gr st ms = some (cT, u, q, r) → (∀ s j, .sp s j ∈ u → tM st (s, j)) ∧ ∀ p ∈ r, tM st p
 | [], _, _, _, _, h => by
   simp only [gr, Option.some.injEq, Prod.mk.injEq] at h; obtain ⟨_, rfl, _, rfl⟩ := h; simp
 | (m, v) :: ms, cT, u, q, r, h => by
   unfold gr at h
   cases h1 : dE st m v with
   | none => simp [h1] at h
   | some p1 =>
     obtain ⟨av, u1, q1, r1⟩ := p1
     cases h2 : gr st ms with
     | none => simp [h1, h2] at h
     | some p2 =>
       obtain ⟨OA, u2, q2, r2⟩ := p2; simp only [h1, h2, Option.some.injEq, Prod.mk.injEq] at h; obtain ⟨_, rfl, _, rfl⟩ := h; obtain ⟨a1, a2⟩ := E2 h1; obtain ⟨b1, b2⟩ := yV ms h2; refine ⟨fun s j hm => ?_, fun p hp => ?_⟩
       · rcases List.mem_append.1 hm with hm | hm
         · exact a1 s j hm
         · exact b1 s j hm
       · rcases List.mem_append.1 hp with hp | hp
         · exact a2 p hp
         · exact b2 p hp
theorem zO : {l : List Nat} → Dn l = true → ∀ {a b : Nat} {x y : Nat}, l[a]? = some x → l[b]? = some y → a < b → x < y
 | [], _, a, b, x, y, h, _, _ => by simp at h
 | [z], _, a, b, x, y, h1, h2, hab => by
   have : b = 0 := by
     have := (List.getElem?_eq_some_iff.1 h2).1; simpa using this
   omega
 | z :: z' :: l, h, a, b, x, y, h1, h2, hab => by
   simp only [Dn, Bool.and_eq_true] at h; have hz : z < z' := by have := h.1; simp [Nat.blt] at this; omega
   cases b with
   | zero => omega
   | succ b =>
     cases a with
     | succ a => exact zO h.2 (by simpa using h1) (by simpa using h2) (by omega)
     | zero =>
       simp at h1; subst h1
       cases b with
       | zero => simp at h2; omega
       | succ b =>
         have := zO (a := 0) (b := b + 1) h.2 rfl (by simpa using h2) (by omega); omega
theorem LF {l : List Nat} (h : Dn l = true) {a b x : Nat} (h1 : l[a]? = some x) (h2 : l[b]? = some x) : a = b := by
 rcases Nat.lt_trichotomy a b with h3 | h3 | h3
 · have := zO h h1 h2 h3; omega
 · exact h3
 · have := zO h h2 h1 h3; omega
theorem AH {k : Nat} : (n : Nat) → (l : List Dr) → (∃ y ∈ l, y.k = k) → ∃ i y, posOf k n l = n + i ∧ l[i]? = some y ∧ y.k = k
 | n, [], h => by obtain ⟨y, hy, _⟩ := h; cases hy
 | n, x :: l, h => by
   unfold posOf
   cases hb : Nat.beq x.k k with
   | true => exact ⟨0, x, rfl, rfl, Nat.eq_of_beq_eq_true hb⟩
   | false =>
     have fm : x.k ≠ k := by intro e; rw [e, Nat.beq_refl] at hb; cases hb
     obtain ⟨y, hy, e⟩ := h; rcases List.mem_cons.1 hy with rfl | hy
     · exact absurd e fm
     · obtain ⟨i, y', h1, h2, h3⟩ := AH (n + 1) l ⟨y, hy, e⟩; exact ⟨i + 1, y', by rw [cond_false, h1]; omega, by simpa using h2, h3⟩
theorem E3 {l : List Dr} (hi : Dn (l.map (·.k)) = true) {i : Nat} {y : Dr} (h : l[i]? = some y) : posOf y.k 0 l = i := by
 obtain ⟨i', y', h1, h2, h3⟩ := AH (k := y.k) 0 l ⟨y, List.mem_of_getElem? h, rfl⟩; rw [h1, Nat.zero_add]; exact LF hi (x := y.k) (by rw [List.getElem?_map, h2]; simp [h3]) (by rw [List.getElem?_map, h]; rfl)
def Dr.cv (y : Dr) : CV := .mX y.a y.j y.g y.e y.i y.k y.q y.ys
theorem rI {y : Dr} : {cs : List CV} → y ∈ vB cs → y.cv ∈ cs
 | [], h => by simp [vB] at h
 | c :: cs, h => by
   cases c with
   | mX a j g e i k q ys =>
     rcases List.mem_cons.1 h with rfl | h
     · exact List.mem_cons_self
     · exact List.mem_cons_of_mem _ (rI h)
   | _ => exact List.mem_cons_of_mem _ (rI h)
theorem AI {a j g e i k : Nat} {q : RT} {ys : List (ak q)} : {cs : List CV} → CV.mX a j g e i k q ys ∈ cs → (⟨a, j, g, e, i, k, q, ys⟩ : Dr) ∈ vB cs
 | [], h => by cases h
 | c :: cs, h => by
   rcases List.mem_cons.1 h with rfl | h
   · exact List.mem_cons_self
   · have := AI (cs := cs) h
     cases c with
     | mX _ _ _ _ _ _ _ _ => exact List.mem_cons_of_mem _ this
     | _ => exact this
theorem AJ {y : Dr} : {ms : List (Pm × V)} → y ∈ oJ ms → ∃ m ∈ ms, (m = (.io, .one y.cv)) ∨ ∃ cs, m = (.bp, .agg cs) ∧ y.cv ∈ cs
 | [], h => by simp [oJ] at h
 | (p, v) :: ms, h => by
   have rest : y ∈ oJ ms → ∃ m ∈ (p, v) :: ms, (m = (.io, .one y.cv)) ∨ ∃ cs, m = (.bp, .agg cs) ∧ y.cv ∈ cs := fun h => by
     obtain ⟨m, hm, e⟩ := AJ h; exact ⟨m, List.mem_cons_of_mem _ hm, e⟩
   cases p with
   | io => cases v with
     | one c =>
       rcases List.mem_append.1 h with h | h
       · have := rI h; simp at this; exact ⟨_, List.mem_cons_self, .inl (by rw [this])⟩
       · exact rest h
     | _ => exact rest h
   | bp => cases v with
     | agg cs =>
       rcases List.mem_append.1 h with h | h
       · exact ⟨_, List.mem_cons_self, .inr ⟨cs, rfl, rI h⟩⟩
       · exact rest h
     | _ => exact rest h
   | _ => exact rest (by cases v <;> exact h)
theorem CE {a j g e i k : Nat} {q : RT} {ys : List (ak q)} : {ms : List (Pm × V)} → (.io, .one (.mX a j g e i k q ys)) ∈ ms → (⟨a, j, g, e, i, k, q, ys⟩ : Dr) ∈ oJ ms
 | [], h => by cases h
 | (p, v) :: ms, h => by
   rcases List.mem_cons.1 h with h | h
   · cases h
     exact List.mem_append_left _ List.mem_cons_self
   · have := CE (ms := ms) h
     cases p <;> cases v <;> first | exact this | exact List.mem_append_right _ this
theorem yW {a j g e i k : Nat} {q : RT} {ys : List (ak q)} {cs : List CV} (hc : CV.mX a j g e i k q ys ∈ cs) : {ms : List (Pm × V)} → (.bp, .agg cs) ∈ ms → (⟨a, j, g, e, i, k, q, ys⟩ : Dr) ∈ oJ ms
 | [], h => by cases h
 | (p, v) :: ms, h => by
   rcases List.mem_cons.1 h with h | h
   · cases h
     exact List.mem_append_left _ (AI hc)
   · have := yW hc (ms := ms) h
     cases p <;> cases v <;> first | exact this | exact List.mem_append_right _ this
theorem xp {st : St} {ms : List (Pm × V)} {x : Dr} {A : fL} {l : List Dr} (h : kg st ms = some (x, A, l)) :
   l = oJ ms ∧ aQ st x.a x.j x.g = some A ∧ A.own = true ∧ A.md = .dp ∧ kW st x.a = x.e ∧ (∀ y ∈ l, y.a = x.a ∧ y.j = x.j ∧ y.g = x.g ∧ y.e = x.e ∧ y.i = x.i) ∧ Dn (l.map (·.k)) = true ∧ x.a ≠ st.length - 1 := by
 unfold kg at h
 cases hd : oJ ms with
 | nil => rw [hd] at h; cases h
 | cons y l' =>
   rw [hd] at h; simp only at h
   cases hA : aQ st y.a y.j y.g with
   | none => rw [hA] at h; cases h
   | some B =>
     rw [hA] at h; simp only at h; obtain ⟨h1, h⟩ := aD h; simp only [Option.some.injEq, Prod.mk.injEq] at h; obtain ⟨rfl, rfl, rfl⟩ := h; simp only [Bool.and_eq_true] at h1; obtain ⟨⟨⟨⟨⟨h1, h2⟩, h3⟩, h4⟩, h5⟩, h6⟩ := h1; refine ⟨rfl, hA, h1, Md.kq.1 h2, (Nat.eq_of_beq_eq_true h3).symm, fun z hz => ?_, h5, fun e => ?_⟩
     · rcases List.mem_cons.1 hz with rfl | hz
       · exact ⟨rfl, rfl, rfl, rfl, rfl⟩
       · have := List.all_eq_true.1 h4 z hz; simp only [Bool.and_eq_true] at this; obtain ⟨⟨⟨⟨q1, q2⟩, q3⟩, q4⟩, q5⟩ := this; exact ⟨Nat.eq_of_beq_eq_true q1, Nat.eq_of_beq_eq_true q2, Nat.eq_of_beq_eq_true q3, Nat.eq_of_beq_eq_true q4, Nat.eq_of_beq_eq_true q5⟩
     · rw [← e, Nat.beq_refl] at h6
       cases h6
theorem E4 : (r : RT) → (x : ak r) → (k : Nat) → {p : (q : RT) × List (ak q)} → nQ r x k = some p → k < r.width
 | .nil, _, _, _, h => by simp [nQ] at h
 | .cons t r, x, 0, _, _ => by simp [RT.width]
 | .cons t r, x, k + 1, p, h => by
   have h' : nQ r x.2 k = some p := by cases t <;> exact h
   have := E4 r x.2 k h'; simp [RT.width]; omega
noncomputable def Cz.split (c : Cz) (a j i P : Nat) (gg : Nat → List Nat) (l : List Dr) (KS : Nat → Loc) : Cz :=
 { bx := c.bx, lc := fun s k => if s = P then KS k else c.lc s k,
   own := fun k => have := Classical.propDecidable (c.own k = some (.sp a j) ∧ ∃ y q, y ∈ l ∧ gg k = i :: y.k :: q); if c.own k = some (.sp a j) ∧ ∃ y q, y ∈ l ∧ gg k = i :: y.k :: q then some (.sp P (posOf ((gg k).getD 1 0) 0 l)) else c.own k }
theorem Cz.l7 {c : Cz} {a j i P : Nat} {gg : Nat → List Nat} {l : List Dr} {KS : Nat → Loc} {k : Nat} (h : ¬ (c.own k = some (.sp a j) ∧ ∃ y q, y ∈ l ∧ gg k = i :: y.k :: q)) : (c.split a j i P gg l KS).own k = c.own k := by
 unfold Cz.split; simp only; rw [if_neg h]
theorem Cz.E5 {c : Cz} {a j i P : Nat} {gg : Nat → List Nat} {l : List Dr} {KS : Nat → Loc} (hi : Dn (l.map (·.k)) = true) {k n : Nat} {y : Dr} {q : List Nat} (h : c.own k = some (.sp a j)) (hy : l[n]? = some y) (hg : gg k = i :: y.k :: q) : (c.split a j i P gg l KS).own k = some (.sp P n) := by
 unfold Cz.split; simp only; rw [if_pos ⟨h, y, q, List.mem_of_getElem? hy, hg⟩, hg]; have : (i :: y.k :: q).getD 1 0 = y.k := rfl; rw [this, E3 hi hy]
theorem Cz.tN {c : Cz} {a j i P : Nat} {gg : Nat → List Nat} {l : List Dr} {KS : Nat → Loc} {k : Nat} : (c.split a j i P gg l KS).ok k ↔ c.ok k := by
 unfold Cz.ok
 by_cases h : c.own k = some (.sp a j) ∧ ∃ y q, y ∈ l ∧ gg k = i :: y.k :: q
 · have h0 := h.1; unfold Cz.split; simp only; rw [if_pos h, h0]; simp
 · rw [Cz.l7 h]
theorem Cz.GZ {c : Cz} {a j i P : Nat} {gg : Nat → List Nat} {l : List Dr} {KS : Nat → Loc} {k : Nat} {lb : Lb} (h : (c.split a j i P gg l KS).own k = some lb) : c.own k = some lb ∨ (c.own k = some (.sp a j) ∧ ∃ n, lb = .sp P n) := by
 by_cases h1 : c.own k = some (.sp a j) ∧ ∃ y q, y ∈ l ∧ gg k = i :: y.k :: q
 · unfold Cz.split at h; simp only at h; rw [if_pos h1] at h; exact .inr ⟨h1.1, _, (Option.some.inj h).symm⟩
 · rw [Cz.l7 h1] at h; exact .inl h
theorem tO {st : St} {x : Dr} {A : fL} {l : List Dr} (fm : x.a ≠ st.length - 1) (s : Nat) : nth (dN st x A l) s = if s = st.length - 1 then (nth st s).map (fun z => { z with aJ := l.map (fun y => some y.arr), ag := z.ag + 1, ep := z.ep + 1 }) else
   (if s = x.a then (nth st s).map (fun z => { z with aJ := kS (fun _ => some { A with md := .ho x.i }) z.aJ x.j, ep := z.ep + 1 }) else nth st s) := by
 unfold dN bh; rw [cQ, cQ]
 by_cases e : s = st.length - 1
 · rw [if_pos e, if_pos e, if_neg (show ¬ (s = x.a) from fun e' => fm (e'.symm.trans e))]
 · rw [if_neg e, if_neg e]
end Go.TM
namespace Go.TM
open Go Go.RowKit
structure PO (c c1 : Cz) (st : St) (w : World) (x : Dr) (A : fL) (l : List Dr) (gg : Nat → List Nat) (b o cap : Nat) : Prop where
 lc : c.lc x.a x.j = .at b o cap
 lc1 : c1.lc x.a x.j = .at b o cap
 own : c.own b = some (.sp x.a x.j)
 g0 : gg b = []
 rows : ∀ (i : Nat) z, A.xs[i]? = some z → fp w (fun p k => c.own k = some (.sp x.a x.j) ∧ gg k = p) A.r [i] 0 b (o + i * A.r.width) z
 stay : ∀ k, c.own k = some (.sp x.a x.j) → (∀ y ∈ l, ∀ q, gg k ≠ x.i :: y.k :: q) → c1.own k = some (.sp x.a x.j)
 out : ∀ n y, l[n]? = some y → ∃ v, w.cell? ⟨b, o + x.i * A.r.width + y.k, none⟩ = some v ∧ v.oneCell' = true ∧ gP (c1.lc (st.length - 1) n) y.q.width 0 y.ys.length v ∧ y.k < A.r.width
 len : x.i < A.xs.length
theorem tN {w0 : World} {mu : Mu} {c : Cz} {st : St} {a : Act} {w : World} (h : Rel w0 mu c st a w) {ms : List (Pm × V)} {x : Dr} {A : fL} {l : List Dr} (hs : kg st ms = some (x, A, l)) (tL : ∀ m ∈ ms, ∃ v, ea c st w m.2 v) :
   ∃ (c1 : Cz) (gg : Nat → List Nat) (b o cap : Nat), Rel w0 mu c1 (dN st x A l) a w ∧ Fw c st w c1 (dN st x A l) w ∧ PO c c1 st w x A l gg b o cap ∧
     ∀ m ∈ ms, ∀ v, ea c st w m.2 v → ea c1 (dN st x A l) w (Oe (st.length - 1) (lM st (st.length - 1) + 1) l m).2 v := by
 obtain ⟨hl, hA, eK, uY, hep, oS, JG, fm⟩ := xp hs; have oV : ∀ y ∈ l, ∃ v, iv c st w y.cv v := by
   intro y hy; rw [hl] at hy; obtain ⟨m, hm, e | ⟨cs, e, hc⟩⟩ := AJ hy
   · obtain ⟨v, hv⟩ := tL m hm; rw [e] at hv; exact ⟨v, hv⟩
   · obtain ⟨v, hv⟩ := tL m hm; rw [e] at hv; obtain ⟨vs, rfl, hL⟩ := hv; obtain ⟨k, hk⟩ := List.mem_iff_getElem?.1 hc; have bQ : k < vs.toList.length := by rw [← hL.1]; exact (List.getElem?_eq_some_iff.1 hk).1
     exact ⟨_, hL.2 k _ _ hk (List.getElem?_eq_getElem bQ)⟩
 have Vs : ∀ y ∈ l, ∀ v, iv c st w y.cv v → ∃ (gg : Nat → List Nat) (b o cap : Nat), c.lc x.a x.j = .at b o cap ∧ A.md = .dp ∧ gg b = [] ∧ w.cell? ⟨b, o + x.i * A.r.width + y.k, none⟩ = some v ∧
     (∀ (i : Nat) z, A.xs[i]? = some z → fp w (fun p k => c.own k = some (.sp x.a x.j) ∧ gg k = p) A.r [i] 0 b (o + i * A.r.width) z) ∧ (∃ z, A.xs[x.i]? = some z ∧ nQ A.r z y.k = some ⟨y.q, y.ys⟩) := by
   intro y hy v hv; obtain ⟨e1, e2, e3, e4, e5⟩ := oS y hy; obtain ⟨ya, yj, yg, ye, yi, yk, yq, yys⟩ := y; simp only at e1 e2 e3 e4 e5; subst e1 e2 e3 e4 e5; obtain ⟨gg, b, o, cap, h1, h2, h3, h4, h5, h6, _⟩ := ER hv hA hep (h.qD hA); exact ⟨gg, b, o, cap, h1, h2, h3, h4, h5, h6⟩
 have dP := h.qD hA; obtain ⟨y0, Vt⟩ : ∃ y, y ∈ l := by
   cases Ri : l with
   | cons y _ => exact ⟨y, List.mem_cons_self⟩
   | nil =>
     rw [Ri] at hl; unfold kg at hs; rw [← hl] at hs
     cases hs
 obtain ⟨v0, hv0⟩ := oV y0 Vt; obtain ⟨gg, b, o, cap, fO, _, Iv, _, vo, PQ⟩ := Vs y0 Vt v0 hv0; have LG : ∀ y ∈ l, ∀ v, iv c st w y.cv v → w.cell? ⟨b, o + x.i * A.r.width + y.k, none⟩ = some v ∧ (∃ z, A.xs[x.i]? = some z ∧ nQ A.r z y.k = some ⟨y.q, y.ys⟩) := by
   intro y hy v hv; obtain ⟨_, b', o', GD, h1, _, _, h4, _, h6⟩ := Vs y hy v hv; rw [fO] at h1; injection h1 with e1 e2 e3; subst e1 e2 e3; exact ⟨h4, h6⟩
 have LH : ∀ n : Nat, ∃ lc : Loc, ∀ y, l[n]? = some y → ∃ v, w.cell? ⟨b, o + x.i * A.r.width + y.k, none⟩ = some v ∧ v.oneCell' = true ∧ gP lc y.q.width 0 y.ys.length v ∧
     ((lc = .nil ∧ y.ys = []) ∨ ∃ b' off GD, lc = .at b' off GD ∧ (c.own b' = some (.sp x.a x.j) ∧ gg b' = [x.i, y.k]) ∧ y.ys.length ≤ GD ∧ (∃ cur ty, w.heap[b']? = some (.cells cur ty (0, 0)) ∧ off + GD * y.q.width ≤ cur.size) ∧
       ∀ (i : Nat) z, y.ys[i]? = some z → fp w (fun p k => c.own k = some (.sp x.a x.j) ∧ gg k = p) y.q ([x.i, y.k] ++ [i]) 0 b' (off + i * y.q.width) z) := by
   intro n
   cases hn : l[n]? with
   | none => exact ⟨.nil, fun y hy => by cases hy⟩
   | some y =>
     have hy := List.mem_of_getElem? hn; obtain ⟨v, hv⟩ := oV y hy; obtain ⟨h4, z, Rj, OD⟩ := LG y hy v hv; obtain ⟨v', q1, q2⟩ := x8 A.r [x.i] 0 _ z y.k (vo x.i z Rj) OD; rw [h4] at q1
     cases q1
     obtain ⟨lc, r1, r2, r3⟩ := (tl _ _ _ _ _ _).1 q2; refine ⟨lc, fun y' N5 => ?_⟩
     cases N5
     exact ⟨v, h4, r2, r1, by simpa using r3⟩
 obtain ⟨KS, Rk⟩ := Classical.axiomOfChoice LH; have hb : c.own b = some (.sp x.a x.j) := by
   unfold bF at dP; rw [fO] at dP; have := dP.1
   rwa [eK] at this
 let P := st.length - 1
 let c1 := c.split x.a x.j x.i P gg l KS
 have xq := tO (A := A) (l := l) fm; obtain ⟨sla, PR, ha2, Vu⟩ := a7 hA; have Rl : P < st.length := by
   have := Dq PR; show st.length - 1 < st.length; omega
 obtain ⟨slP, hP⟩ : ∃ s, nth st P = some s := ⟨st[P], by rw [fo]; exact List.getElem?_eq_getElem Rl⟩; have Zg : lM st P = slP.ag := by unfold lM; rw [hP]
 have CF : ∀ s k, s ≠ P → c1.lc s k = c.lc s k := fun s k e => by show (if s = P then _ else _) = _; rw [if_neg e]
 have LI : ∀ k, c1.lc P k = KS k := fun k => by show (if P = P then _ else _) = _; rw [if_pos rfl]
 have yd : ∀ s, cM st s ≤ cM (dN st x A l) s ∧ fK st s = fK (dN st x A l) s ∧ kW st s ≤ kW (dN st x A l) s ∧ (s = P ∨ s = x.a → nth st s ≠ none → kW (dN st x A l) s ≠ kW st s) := by
   intro s; unfold cM fK kW; rw [xq]
   by_cases e : s = st.length - 1
   · rw [if_pos e]
     cases nth st s with
     | none => simp
     | some z => refine ⟨by simp, rfl, by simp, fun _ _ => by simp⟩
   · rw [if_neg e]
     by_cases e2 : s = x.a
     · rw [if_pos e2]
       cases nth st s with
       | none => simp
       | some z => refine ⟨by simp, rfl, by simp, fun _ _ => by simp⟩
     · rw [if_neg e2]; exact ⟨Nat.le_refl _, rfl, Nat.le_refl _, fun h => absurd h (by rintro (h | h); exact e h; exact e2 h)⟩
 have Vv : cM (dN st x A l) P = slP.ag + 1 := by
   unfold cM; rw [xq, if_pos rfl, hP]; rfl
 have fD : Fw c st w c1 (dN st x A l) w := {
   stays := ⟨Nat.le_refl _, fun _ _ _ => rfl, fun _ _ h => Cz.tN.2 h⟩
   refs := fun a' j' g' A2 hg GQ => by
     obtain ⟨sl, k1, k2, k3⟩ := a7 GQ; rw [xq] at k1
     by_cases e : a' = st.length - 1
     · rw [if_pos e] at k1; obtain ⟨z, hz, rfl⟩ := Option.map_eq_some_iff.1 k1; unfold cM at hg; rw [hz] at hg; simp only at k2 hg; omega
     · rw [if_neg e] at k1
       by_cases e2 : a' = x.a
       · rw [if_pos e2] at k1; obtain ⟨z, hz, rfl⟩ := Option.map_eq_some_iff.1 k1; have Vw := (yd a').2.2.2 (.inr e2) (by rw [hz]; simp); simp only at k2 k3; rw [cQ] at k3
         by_cases e3 : j' = x.j
         · rw [if_pos e3] at k3; subst e2 e3; rw [PR] at hz
           cases hz
           rw [Vu] at k3; simp only [Option.map_some, Option.some.injEq] at k3; subst k3; exact ⟨A, ml PR k2 Vu, rfl, rfl, CF _ _ e, fun he => absurd he Vw⟩
         · rw [if_neg e3] at k3; exact ⟨A2, ml hz k2 k3, rfl, rfl, CF _ _ e, fun he => absurd he Vw⟩
       · rw [if_neg e2] at k1; exact ⟨A2, ml k1 k2 k3, rfl, rfl, CF _ _ e, fun _ => ⟨rfl, fun _ _ _ _ => rfl⟩⟩
   zM := fun b' g' lI _ kt => by
     refine ⟨⟨lI, ?_⟩, rfl⟩; unfold de at kt ⊢; rw [xq] at kt
     by_cases e : b' = st.length - 1
     · rw [if_pos e] at kt
       cases hz : nth st b' with
       | none => rw [hz] at kt; cases kt
       | some z => rw [hz] at kt; exact kt
     · rw [if_neg e] at kt
       by_cases e2 : b' = x.a
       · rw [if_pos e2] at kt
         cases hz : nth st b' with
         | none => rw [hz] at kt; cases kt
         | some z => rw [hz] at kt; exact kt
       · rw [if_neg e2] at kt; exact kt
   gA := fun s => (yd s).1
   gB := fun s => Nat.le_of_eq (yd s).2.1
   gE := fun s => (yd s).2.2.1 }
 have Vx : ∀ t, bI (dN st x A l) t = bI st t := by
   intro t; unfold bI; rw [xq]
   by_cases e : t = st.length - 1
   · rw [if_pos e]; cases nth st t <;> rfl
   · rw [if_neg e]
     by_cases e2 : t = x.a
     · rw [if_pos e2]; cases nth st t <;> rfl
     · rw [if_neg e2]
 have other : ∀ s k B, bF c w s k B → ¬ (s = x.a ∧ k = x.j) → s ≠ P → bF c1 w s k B := by
   intro s k B hB hn hsP; refine hB.go fD.stays (CF s k hsP) (fun kb hk => ⟨rfl, Cz.l7 ?_⟩)
   rintro ⟨h1, _⟩
   rw [hk] at h1; injection h1 with h1; injection h1 with e1 e2; exact hn ⟨e1, e2⟩
 have Zh : Rel w0 mu c1 (dN st x A l) a w := {
   eR := fun t => by rw [Vx]; exact fD.la (h.eR t)
   boxes := fun s sl cs hs kt => by
     have : ∃ PL, nth st s = some PL ∧ PL.box = some cs := by
       rw [xq] at hs
       by_cases e : s = st.length - 1
       · rw [if_pos e] at hs; obtain ⟨z, hz, rfl⟩ := Option.map_eq_some_iff.1 hs; exact ⟨z, hz, kt⟩
       · rw [if_neg e] at hs
         by_cases e2 : s = x.a
         · rw [if_pos e2] at hs; obtain ⟨z, hz, rfl⟩ := Option.map_eq_some_iff.1 hs; exact ⟨z, hz, kt⟩
         · rw [if_neg e2] at hs; exact ⟨sl, hs, kt⟩
     obtain ⟨PL, gm, QR⟩ := this; have zE := h.boxes s PL cs gm QR; refine zE.go fD rfl (Cz.l7 ?_) rfl
     rintro ⟨h1, _⟩
     rw [zE.1] at h1
     cases h1
   aJ := fun s k sl B hs hB => by
     rw [xq] at hs
     by_cases e : s = st.length - 1
     · rw [if_pos e] at hs; obtain ⟨z, hz, rfl⟩ := Option.map_eq_some_iff.1 hs; simp only at hB; rw [fo, List.getElem?_map] at hB
       cases hy : l[k]? with
       | none => rw [hy] at hB; cases hB
       | some y =>
         rw [hy] at hB; simp only [Option.map_some, Option.some.injEq] at hB; subst hB; obtain ⟨v, r1, r2, r3, r4⟩ := Rk k y hy; have es : s = P := e; rw [es]; unfold bF; rw [LI]; rcases r4 with ⟨e4, e5⟩ | ⟨b', off, GD, e4, ⟨q1, q2⟩, q3, q4, q5⟩
         · rw [e4]; exact e5
         · rw [e4]; refine ⟨Cz.E5 JG q1 hy (q := []) q2, q3, q4, ?_⟩; unfold bj; show match (bif y.q.dD then Md.dp else Md.sh) with | .sh => _ | .dp => _ | .ho _ => _
           cases OE : y.q.dD with
           | false => exact fun i z hz => fp.EA _ _ _ _ _ z OE (q5 i z hz)
           | true =>
             refine ⟨fun k => (gg k).drop 2, by show List.drop 2 (gg b') = []; rw [q2]; rfl, fun i z hz => fp.go _ _ [i] (fun q kb hk => ⟨rfl, Cz.E5 JG hk.1 hy (q := [i] ++ q) (by rw [hk.2]; simp), by show List.drop 2 (gg kb) = _; rw [hk.2]; simp⟩) _ _ _ z rfl (q5 i z hz)⟩
     · rw [if_neg e] at hs
       by_cases e2 : s = x.a
       · rw [if_pos e2] at hs; obtain ⟨z, hz, rfl⟩ := Option.map_eq_some_iff.1 hs; simp only at hB; rw [cQ] at hB
         by_cases e3 : k = x.j
         · rw [if_pos e3] at hB; subst e2 e3; rw [PR] at hz
           cases hz
           rw [Vu] at hB; simp only [Option.map_some, Option.some.injEq] at hB; subst hB; unfold bF at dP ⊢; rw [CF _ _ e, fO]; rw [fO] at dP; obtain ⟨h0, h2, h3, _⟩ := dP; refine ⟨?_, h2, h3, fun _ => ⟨gg, Iv, fun i' z hq hz => fp.go _ [i'] [i'] (fun q kb hk => ⟨rfl, (Cz.l7 (by
             rintro ⟨_, y, q', _, hg⟩
             rw [hk.2] at hg; injection hg with e' _; exact hq e')).trans hk.1, hk.2⟩) _ _ _ z rfl (vo i' z hz)⟩⟩
           show match A.own with | true => _ | false => _
           rw [eK]; show c1.own b = _; rw [Cz.l7]
           · exact hb
           · rintro ⟨_, y, q, _, hq⟩
             rw [Iv] at hq
             cases hq
         · rw [if_neg e3] at hB; exact other s k B (h.aJ s k z B hz hB) (fun hh => e3 hh.2) e
       · rw [if_neg e2] at hs; exact other s k B (h.aJ s k sl B hs hB) (fun hh => e2 hh.1) e
   owned := fun kb lb hk => by
     rcases Cz.GZ hk with h1 | ⟨h1, n, rfl⟩
     · exact h.owned kb lb h1
     · obtain ⟨g1, g2⟩ := h.owned kb _ h1; exact ⟨g1, .inr (g2.resolve_left (by simp))⟩
   free := fun kb bQ hk => h.free kb bQ (Cz.tN.1 hk)
   kept := h.kept
   old := h.old
   plain := h.plain
   dO := fun p hp => fD.dO (h.dO p hp) }
 refine ⟨c1, gg, b, o, cap, Zh, fD, ⟨fO, by rw [CF _ _ fm]; exact fO, hb, Iv, vo, fun k hk hq => ?_, fun n y hn => ?_, ?_⟩, ?_⟩
 · show c1.own k = _; rw [Cz.l7]
   · exact hk
   · rintro ⟨_, y, q, hy, hq'⟩
     exact hq y hy q hq'
 · obtain ⟨v, r1, r2, r3, _⟩ := Rk n y hn; refine ⟨v, r1, r2, by rw [LI]; exact r3, ?_⟩; obtain ⟨v', lK⟩ := oV y (List.mem_of_getElem? hn); obtain ⟨_, z, _, OD⟩ := LG y (List.mem_of_getElem? hn) v' lK; exact E4 _ _ _ OD
 · obtain ⟨z, Rj, _⟩ := PQ; exact (List.getElem?_eq_some_iff.1 Rj).1
 · -- Gu values KW Uj iT
   have cell : ∀ cv v, iv c st w cv v → (∀ a j g e i k q ys, cv = .mX a j g e i k q ys → (⟨a, j, g, e, i, k, q, ys⟩ : Dr) ∈ l) → iv c1 (dN st x A l) w (QP (st.length - 1) (lM st (st.length - 1) + 1) l cv) v := by
     intro cv v hv hm
     cases cv with
     | mX a j g e i k q ys =>
       have hy := hm _ _ _ _ _ _ _ _ rfl; obtain ⟨n, hn⟩ := List.mem_iff_getElem?.1 hy; have LJ : posOf k 0 l = n := E3 JG hn; show iv c1 (dN st x A l) w (.ref P (posOf k 0 l) (lM st P + 1) .full) v; rw [LJ]; obtain ⟨v', r1, r2, r3, _⟩ := Rk n _ hn; have hvv := (LG _ hy v hv).1; rw [r1] at hvv
       cases hvv
       refine ⟨r2, by rw [Vv, Zg]; exact Nat.le_refl _, fun B hB => ?_⟩; obtain ⟨sl, k1, k2, k3⟩ := a7 hB; rw [xq, if_pos rfl] at k1; obtain ⟨z, hz, rfl⟩ := Option.map_eq_some_iff.1 k1; simp only at k3; rw [fo, List.getElem?_map, hn] at k3; simp only [Option.map_some, Option.some.injEq] at k3; subst k3; rw [LI]; exact r3
     | _ => exact fD.K8 hv
   intro m hm v hv; obtain ⟨pm, mv⟩ := m
   cases pm with
   | io => cases mv with
     | one cv =>
       exact cell cv v hv (fun a j g e i k q ys e1 => by rw [hl]; subst e1; exact CE hm)
     | _ => exact fD.la hv
   | bp => cases mv with
     | agg cs =>
       obtain ⟨vs, rfl, hL⟩ := hv; refine ⟨vs, rfl, by rw [List.length_map]; exact hL.1, fun i y u hy hu => ?_⟩; rw [List.getElem?_map] at hy; obtain ⟨y0, Vt, rfl⟩ := Option.map_eq_some_iff.1 hy; exact cell y0 u (hL.2 i y0 u Vt hu) (fun a j g e i k q ys e1 => by rw [hl]; subst e1; exact yW (List.mem_of_getElem? Vt) hm)
     | _ => exact fD.la hv
   | _ => cases mv <;> exact fD.la hv
end Go.TM
namespace Go.TM
open Go Go.RowKit
theorem Rel.clear {w0 : World} {mu : Mu} {c : Cz} {st : St} {a : Act} {w : World} (h : Rel w0 mu c st a w) (P : Nat) : Rel w0 mu c (kS (fun s => { s with aJ := [], ep := s.ep + 1 }) st P) a w ∧ Fw c st w c (kS (fun s => { s with aJ := [], ep := s.ep + 1 }) st P) w := by
 have hn : ∀ s, nth (kS (fun s => { s with aJ := [], ep := s.ep + 1 }) st P) s = if s = P then (nth st s).map (fun z => { z with aJ := [], ep := z.ep + 1 }) else nth st s := fun s => cQ _ _ _ _
 generalize kS (fun s => { s with aJ := [], ep := s.ep + 1 }) st P = aP at hn ⊢; have fD : Fw c st w c aP w := {
   stays := gI.refl w _
   refs := fun a' j' g' A' _ dP => by
     obtain ⟨sl, k1, k2, k3⟩ := a7 dP; rw [hn] at k1
     by_cases e : a' = P
     · rw [if_pos e] at k1; obtain ⟨z, hz, rfl⟩ := Option.map_eq_some_iff.1 k1; simp [nth] at k3
     · rw [if_neg e] at k1; exact ⟨A', ml k1 k2 k3, rfl, rfl, rfl, fun _ => ⟨rfl, fun _ _ _ _ => rfl⟩⟩
   zM := fun b' g' lI _ kt => by
     refine ⟨⟨lI, ?_⟩, rfl⟩; unfold de at kt ⊢; rw [hn] at kt
     by_cases e : b' = P
     · rw [if_pos e] at kt
       cases hz : nth st b' with
       | none => rw [hz] at kt; cases kt
       | some z => rw [hz] at kt; exact kt
     · rw [if_neg e] at kt; exact kt
   gA := fun s => by
     unfold cM; rw [hn]
     by_cases e : s = P
     · rw [if_pos e]; cases nth st s <;> simp
     · rw [if_neg e]; exact Nat.le_refl _
   gB := fun s => by
     unfold fK; rw [hn]
     by_cases e : s = P
     · rw [if_pos e]; cases nth st s <;> simp
     · rw [if_neg e]; exact Nat.le_refl _
   gE := fun s => by
     unfold kW; rw [hn]
     by_cases e : s = P
     · rw [if_pos e]; cases nth st s <;> simp
     · rw [if_neg e]; exact Nat.le_refl _ }
 refine ⟨{
   eR := fun t => by
     have : bI aP t = bI st t := by
       unfold bI; rw [hn]
       by_cases e : t = P
       · rw [if_pos e]; cases nth st t <;> rfl
       · rw [if_neg e]
     rw [this]; exact fD.la (h.eR t)
   boxes := fun s sl cs hs hb => by
     rw [hn] at hs
     by_cases e : s = P
     · rw [if_pos e] at hs; obtain ⟨z, hz, rfl⟩ := Option.map_eq_some_iff.1 hs; exact (h.boxes s z cs hz hb).go fD rfl rfl rfl
     · rw [if_neg e] at hs; exact (h.boxes s sl cs hs hb).go fD rfl rfl rfl
   aJ := fun s j sl A hs hA => by
     rw [hn] at hs
     by_cases e : s = P
     · rw [if_pos e] at hs; obtain ⟨z, hz, rfl⟩ := Option.map_eq_some_iff.1 hs; simp [nth] at hA
     · rw [if_neg e] at hs; exact h.aJ s j sl A hs hA
   owned := h.owned
   free := h.free
   kept := h.kept
   old := h.old
   plain := h.plain
   dO := fun p hp => fD.dO (h.dO p hp) }, fD⟩
theorem Rel.swap {w0 : World} {mu : Mu} {c : Cz} {st : St} {a : Act} {w : World} (h : Rel w0 mu c st a w) {s j g : Nat} {H B : fL} (hH : aQ st s j g = some H) (hw : B.r.width = H.r.width) (hn : B.xs.length = H.xs.length) (hB : bF c w s j B) :
   Rel w0 mu (c.dF id c.bx c.lc) (bh st s j (some B)) a w := by
 have fD : Fw c st w (c.dF id c.bx c.lc) (bh st s j (some B)) w := yc (.inl hH) (fun _ e => by cases e; exact ⟨hw, hn⟩) id; have hX : jg (fun _ => False) w0 mu c st a w := ⟨h.eR, fun s sl cs _ => h.boxes s sl cs, fun s j sl A _ => h.aJ s j sl A, h.owned, h.free, h.kept, h.old, h.plain, h.dO⟩; refine (hX.dF oT fD (fun t => by rw [tJ]; exact fD.la (h.eR t)) (fun k sl cs _ hs hb => ?_) (fun k i sl A _ hs hA => ?_)).rel
 · obtain ⟨f, hf, hk⟩ := fJ st s j (some B) k; rw [hk] at hs
   cases hx : nth st k with
   | none => rw [hx] at hs; simp at hs
   | some x =>
     rw [hx] at hs; simp at hs; subst hs; rw [(hf x).2.1] at hb; exact (h.boxes k x cs hx hb).dF oT fD rfl
 · obtain ⟨f, hf, hk⟩ := fJ st s j (some B) k; rw [hk] at hs
   cases hx : nth st k with
   | none => rw [hx] at hs; simp at hs
   | some x =>
     rw [hx] at hs; simp at hs; subst hs; rw [(hf x).2.2.2.2.1 i] at hA
     by_cases e : k = s ∧ i = j
     · rw [if_pos e] at hA; obtain ⟨rfl, rfl⟩ := e
       cases hq : nth x.aJ i with
       | none => simp [hq] at hA
       | some A1 =>
         simp only [hq, Option.map_some, Option.some.injEq] at hA; subst hA; exact hB.dF oT rfl
     · rw [if_neg e] at hA; exact (h.aJ k i x A hx hA).dF oT rfl
def gv (w : World) (P : List Nat → Nat → Prop) (K : Nat → Prop) : (r : RT) → (p : List Nat) → (k : Nat) → List Value → ak r → Prop
 | .nil, _, _, vs, _ => vs = []
 | .cons t r, p, k, vs, x => ∃ v l, vs = v :: l ∧ (¬ K k → cN w P t (p ++ [k]) v x.1) ∧ gv w P K r p (k + 1) l x.2
theorem gv.of {w w' : World} {P P' : List Nat → Nat → Prop} {K : Nat → Prop} : (r : RT) → (p : List Nat) → (hP : ∀ k q b, ¬ K k → P (p ++ [k] ++ q) b → w'.heap[b]? = w.heap[b]? ∧ P' (p ++ [k] ++ q) b) → (k : Nat) → (vs : List Value) → (x : ak r) → cO w P r p k vs x → gv w' P' K r p k vs x
 | .nil, _, _, _, _, _, h => h
 | .cons t r, p, hP, k, vs, x, h => by
   obtain ⟨v, l, e, h1, h2⟩ := h; exact ⟨v, l, e, fun hk => cN.go t (p ++ [k]) (p ++ [k]) (fun q b hb => hP k q b hk hb) v x.1 h1, gv.of r p hP (k + 1) l x.2 h2⟩
theorem gv.full {w : World} {P : List Nat → Nat → Prop} {K : Nat → Prop} (hK : ∀ k, ¬ K k) : (r : RT) → (p : List Nat) → (k : Nat) → (vs : List Value) → (x : ak r) → gv w P K r p k vs x → cO w P r p k vs x
 | .nil, _, _, _, _, h => h
 | .cons t r, p, k, vs, x, h => by
   obtain ⟨v, l, e, h1, h2⟩ := h; exact ⟨v, l, e, h1 (hK k), gv.full hK r p (k + 1) l x.2 h2⟩
theorem gv.mono {w : World} {P : List Nat → Nat → Prop} {K K' : Nat → Prop} : (r : RT) → (p : List Nat) → (k : Nat) → (hK : ∀ c, k ≤ c → K c → K' c) → (vs : List Value) → (x : ak r) → gv w P K r p k vs x → gv w P K' r p k vs x
 | .nil, _, _, _, _, _, h => h
 | .cons t r, p, k, hK, vs, x, h => by
   obtain ⟨v, l, e, h1, h2⟩ := h; exact ⟨v, l, e, fun hk => h1 fun h => hk (hK k (Nat.le_refl _) h), gv.mono r p (k + 1) (fun c hc => hK c (by omega)) l x.2 h2⟩
theorem gv.set {w : World} {P : List Nat → Nat → Prop} {q : RT} {ys : List (ak q)} {v : Value} : {K : Nat → Prop} → (r : RT) → (p : List Nat) → (k0 : Nat) → (vs : List Value) → (x : ak r) → (col : Nat) → {z : ak r} → gv w P K r p k0 vs x → kY r x col q ys = some z → vs[col]? = some v → cN w P (.sl q) (p ++ [k0 + col]) v ys →
   gv w P (fun c => K c ∧ c ≠ k0 + col) r p k0 vs z
 | _, .nil, _, _, _, _, _, _, _, h, _, _ => by simp [kY] at h
 | K, .cons t r, p, k0, vs, x, 0, z, hx, h, hv, hd => by
   obtain ⟨v', l, rfl, h1, h2⟩ := hx
   cases t with
   | sl q' =>
     have h : (bo q' ys).map (fun zs => ((zs, x.2) : ak (.cons (.sl q') r))) = some z := h; obtain ⟨zs, Vy, hz⟩ := Option.map_eq_some_iff.1 h; obtain ⟨e, rfl⟩ := aX Vy; subst e; subst hz; simp only [List.getElem?_cons_zero, Option.some.injEq] at hv; subst hv; exact ⟨v', l, rfl, fun _ => hd, gv.mono r p (k0 + 1) (fun c hc hK => ⟨hK, by omega⟩) l x.2 h2⟩
   | int _ => simp [kY] at h
   | bool => simp [kY] at h
   | str => simp [kY] at h
 | K, .cons t r, p, k0, vs, x, col + 1, z, hx, h, hv, hd => by
   obtain ⟨v', l, rfl, h1, h2⟩ := hx; have h' : (kY r x.2 col q ys).map (fun z => ((x.1, z) : ak (.cons t r))) = some z := by cases t <;> exact h
   obtain ⟨z', hz', hz⟩ := Option.map_eq_some_iff.1 h'; subst hz; have := gv.set r p (k0 + 1) l x.2 col h2 hz' (by simpa using hv) (by rw [show k0 + 1 + col = k0 + (col + 1) by omega]; exact hd); refine ⟨v', l, rfl, fun hk => h1 fun h => hk ⟨h, by omega⟩, ?_⟩
   rwa [show k0 + 1 + col = k0 + (col + 1) by omega] at this
theorem G0 {w : World} {P : List Nat → Nat → Prop} {p : List Nat} {v : Value} {r s : RT} {xs : List (ak r)} {ys : List (ak s)} (h : bo s xs = some ys) (hd : cN w P (.sl r) p v xs) : cN w P (.sl s) p v ys := by
 obtain ⟨e, rfl⟩ := aX h; subst e; exact hd
theorem AK {st : St} {P g : Nat} {r : RT} {w : World} {PP : List Nat → Nat → Prop} {p : List Nat} {vs : List Value} : (n : Nat) → (l : List Dr) → (z : ak r) → {z' : ak r} → rp st P g r n l z = some z' →
   (∀ m y, l[m]? = some y → ∀ B, aQ st P (n + m) g = some B → B.own = true → B.md = y.q.md → B.r = y.q → ∃ v, vs[y.k]? = some v ∧ cN w PP (.sl B.r) (p ++ [y.k]) v B.xs) →
   gv w PP (fun c => ∃ y ∈ l, y.k = c) r p 0 vs z → cO w PP r p 0 vs z'
 | n, [], z, z', h, _, hx => by
   simp only [rp, Option.some.injEq] at h; subst h; exact gv.full (by simp) _ _ _ _ _ hx
 | n, y :: l, z, z', h, hy, hx => by
   unfold rp at h
   cases hB : aQ st P n g with
   | none => rw [hB] at h; cases h
   | some B =>
     rw [hB] at h; obtain ⟨h1, h2⟩ := aD h; clear h; rw [Bool.and_eq_true] at h1
     cases hc : bo y.q B.xs with
     | none => rw [hc] at h2; cases h2
     | some ys =>
       rw [hc] at h2; simp only at h2
       cases hr : kY r z y.k y.q ys with
       | none => rw [hr] at h2; cases h2
       | some z1 =>
         rw [hr] at h2; simp only at h2; obtain ⟨e, he⟩ := aX hc; obtain ⟨v, hv, hd⟩ := hy 0 y rfl B hB h1.1 (Md.kq.1 h1.2) e; have G1 : cN w PP (.sl y.q) (p ++ [0 + y.k]) v ys := by
           rw [Nat.zero_add]; exact G0 hc hd
         refine AK (n + 1) l z1 h2 (fun m y' hm B' BT => hy (m + 1) y' (by simpa using hm) B' (by rw [show n + (m + 1) = n + 1 + m by omega]; exact BT)) ?_; have := gv.set _ _ _ _ _ _ hx hr hv G1; refine gv.mono _ _ _ (fun c _ hc => ?_) _ _ this; obtain ⟨⟨y', N5, e'⟩, fm⟩ := hc; rcases List.mem_cons.1 N5 with rfl | N5
         · exact absurd e'.symm (by omega)
         · exact ⟨y', N5, e'⟩
theorem LK {w0 : World} {mu : Mu} {c c1 c5 : Cz} {st fI aP : St} {a2 : Act} {w w' : World} {x : Dr} {A : fL} {l : List Dr} {gg : Nat → List Nat} {b o cap : Nat} (fm : x.a ≠ st.length - 1) (GI : aQ st x.a x.j x.g = some A) (eK : A.own = true) (uY : A.md = .dp)
   (hA : bF c w x.a x.j A) (JG : Dn (l.map (·.k)) = true) (BR : PO c c1 st w x A l gg b o cap) (h5 : Rel w0 mu c5 fI a2 w') (fD : Fw c1 (dN st x A l) w c5 fI w')
   (KR : ∀ k, c1.own k = some (.sp x.a x.j) → w'.heap[k]? = w.heap[k]? ∧ c5.own k = some (.sp x.a x.j))
   (hv : (GA (st.length - 1) (lM st (st.length - 1) + 1) x A l fI).val = some aP) : ∃ c6, Rel w0 mu c6 aP a2 w' := by
 unfold GA at hv
 cases hH : aQ fI x.a x.j x.g with
 | none => rw [hH] at hv; cases hv
 | some H =>
   rw [hH] at hv; simp only at hv; obtain ⟨_, hv⟩ := cW hv
   cases hz : A.xs[x.i]? with
   | none => rw [hz] at hv; cases hv
   | some z =>
     rw [hz] at hv; have hv : (match rp fI (st.length - 1) (lM st (st.length - 1) + 1) A.r 0 l z with
       | some z' => N.done (bh (kS (fun s => { s with aJ := [], ep := s.ep + 1 }) fI (st.length - 1)) x.a x.j (some (A.put (A.xs.set x.i z'))))
       | none => .fail).val = some aP := hv
     cases hj : rp fI (st.length - 1) (lM st (st.length - 1) + 1) A.r 0 l z with
     | none => rw [hj] at hv; cases hv
     | some z' =>
       rw [hj] at hv; simp only [N.val, Option.some.injEq] at hv; subst hv; obtain ⟨P, hP⟩ : ∃ P, P = st.length - 1 := ⟨_, rfl⟩; rw [← hP] at fm hj ⊢; have Ll := fm; rw [hP] at Ll; have xq := tO (A := A) (l := l) Ll; rw [← hP] at xq; obtain ⟨sla, PR, ha2, Vu⟩ := a7 GI; have YD : x.g ≤ cM (dN st x A l) x.a := by
         unfold cM; rw [xq, if_neg fm, if_pos rfl, PR]; show x.g ≤ sla.ag; omega
       have Zi : ∀ B0, aQ (dN st x A l) x.a x.j x.g = some B0 → B0.r.width = A.r.width ∧ B0.xs.length = A.xs.length := by
         intro B0 hB0; obtain ⟨sl, k1, k2, k3⟩ := a7 hB0; rw [xq, if_neg fm, if_pos rfl, PR] at k1; simp only [Option.map_some, Option.some.injEq] at k1; subst k1; simp only at k3; rw [cQ, if_pos rfl, Vu] at k3; simp only [Option.map_some, Option.some.injEq] at k3; subst k3; exact ⟨rfl, rfl⟩
       obtain ⟨B0, q1, q2, q3, q4, _⟩ := fD.refs x.a x.j x.g H YD hH; obtain ⟨e1, e2⟩ := Zi B0 q1; have Zj : c5.lc x.a x.j = .at b o cap := q4.trans BR.lc1; have hPs : ∀ n B, aQ fI P n (lM st P + 1) = some B → ∃ y, l[n]? = some y ∧ B.xs.length = y.ys.length ∧ B.r.width = y.q.width ∧ c5.lc P n = c1.lc P n := by
         intro n B hB; have Zg : lM st P + 1 ≤ cM (dN st x A l) P := by
           unfold cM; rw [xq, if_pos rfl]; have Rl : P < st.length := by have := Dq PR; omega
           have : nth st P = some st[P] := by rw [fo]; exact List.getElem?_eq_getElem Rl
           rw [this]; unfold lM; rw [this]; exact Nat.le_refl _
         obtain ⟨B1, r1, r2, r3, r4, _⟩ := fD.refs P n _ B Zg hB; obtain ⟨sl, k1, k2, k3⟩ := a7 r1; rw [xq, if_pos rfl] at k1; obtain ⟨zz, Rm, rfl⟩ := Option.map_eq_some_iff.1 k1; simp only at k3; rw [fo, List.getElem?_map] at k3
         cases hy : l[n]? with
         | none => rw [hy] at k3; cases k3
         | some y =>
           rw [hy] at k3; simp only [Option.map_some, Option.some.injEq] at k3; subst k3; exact ⟨y, rfl, r3, r2, r4⟩
       have hG : ∃ G : Nat → Nat → List Nat, ∀ n B y, aQ fI P n (lM st P + 1) = some B → B.own = true → B.md = B.r.md → l[n]? = some y → ∀ v, v.oneCell' = true → gP (c5.lc P n) B.r.width 0 B.xs.length v →
           ∀ (PP : List Nat → Nat → Prop) (p : List Nat), (∀ k, c5.own k = some (.sp P n) → PP (p ++ G n k) k) → cN w' PP (.sl B.r) p v B.xs := by
         have : ∀ n, ∃ G : Nat → List Nat, ∀ B y, aQ fI P n (lM st P + 1) = some B → B.own = true → B.md = B.r.md → l[n]? = some y → ∀ v, v.oneCell' = true → gP (c5.lc P n) B.r.width 0 B.xs.length v →
           ∀ (PP : List Nat → Nat → Prop) (p : List Nat), (∀ k, c5.own k = some (.sp P n) → PP (p ++ G k) k) → cN w' PP (.sl B.r) p v B.xs := by
           intro n
           by_cases e : ∃ B, aQ fI P n (lM st P + 1) = some B ∧ B.own = true ∧ B.md = B.r.md
           · obtain ⟨B, hB, ho, hm⟩ := e
             by_cases e2 : ∃ v : Value, v.oneCell' = true ∧ gP (c5.lc P n) B.r.width 0 B.xs.length v
             · obtain ⟨v, wS, GX⟩ := e2; obtain ⟨g, hg⟩ := Lf (h5.qD hB) ho hm; refine ⟨g, fun B' y BT _ _ _ v' h1 h2 PP p hP' => ?_⟩; rw [hB] at BT
               cases BT
               exact hg v' h1 h2 PP p hP'
             · refine ⟨fun _ => [], fun B' y BT _ _ _ v' h1 h2 => ?_⟩; rw [hB] at BT
               cases BT
               exact absurd ⟨v', h1, h2⟩ e2
           · exact ⟨fun _ => [], fun B' y BT h1 h2 => absurd ⟨B', BT, h1, h2⟩ e⟩
         obtain ⟨G, hG⟩ := Classical.axiomOfChoice this; exact ⟨G, fun n => hG n⟩
       obtain ⟨G, hG⟩ := hG; have OF : ∃ g6 : Nat → List Nat, (∀ k, c5.own k = some (.sp x.a x.j) → g6 k = gg k) ∧ ∀ n y k, l[n]? = some y → c5.own k = some (.sp P n) → g6 k = [x.i] ++ [y.k] ++ G n k := by
         have key : ∀ k, ∃ q : List Nat, (c5.own k = some (.sp x.a x.j) → q = gg k) ∧ ∀ n y, l[n]? = some y → c5.own k = some (.sp P n) → q = [x.i] ++ [y.k] ++ G n k := by
           intro k
           by_cases e : ∃ n y, l[n]? = some y ∧ c5.own k = some (.sp P n)
           · obtain ⟨n, y, f1, f2⟩ := e; refine ⟨[x.i] ++ [y.k] ++ G n k, fun h => ?_, fun n' y' h1 h2 => ?_⟩
             · rw [f2] at h; injection h with h; injection h with h _; exact absurd h.symm fm
             · rw [f2] at h2; injection h2 with h2; injection h2 with _ h2; subst h2; rw [f1] at h1
               cases h1
               rfl
           · exact ⟨gg k, fun _ => rfl, fun n y h1 h2 => absurd ⟨n, y, h1, h2⟩ e⟩
         obtain ⟨g6, h⟩ := Classical.axiomOfChoice key; exact ⟨g6, fun k => (h k).1, fun n y k => (h k).2 n y⟩
       obtain ⟨g6, Rn, Zk⟩ := OF; obtain ⟨oO, afl⟩ := h5.clear P; have Lj : ∀ n ∈ (List.range l.length).map (fun n => (P, n)), ∀ sl B, nth (kS (fun s => { s with aJ := [], ep := s.ep + 1 }) fI P) n.1 = some sl → nth sl.aJ n.2 ≠ some (some B) := by
         intro n hn sl B hs; obtain ⟨m, _, rfl⟩ := List.mem_map.1 hn; rw [cQ, if_pos rfl] at hs; obtain ⟨zz, _, rfl⟩ := Option.map_eq_some_iff.1 hs; simp [nth]
       have hrl := oO.gK Lj x.a x.j; have rF : ∀ n y, l[n]? = some y → (P, n) ∈ (List.range l.length).map (fun n => (P, n)) := fun n y hn => List.mem_map.2 ⟨n, List.mem_range.2 (List.getElem?_eq_some_iff.1 hn).1, rfl⟩
       have LL : ∀ k, c5.own k = some (.sp x.a x.j) → (c5.gK ((List.range l.length).map (fun n => (P, n))) (.sp x.a x.j)).own k = some (.sp x.a x.j) := by
         intro k hk; rw [Cz.l5]
         · exact hk
         · intro n hn e; obtain ⟨m, _, rfl⟩ := List.mem_map.1 hn; rw [hk] at e; injection e with e; injection e with e _; exact fm e
       have hH' : aQ (kS (fun s => { s with aJ := [], ep := s.ep + 1 }) fI P) x.a x.j x.g = some H := by
         obtain ⟨sl, k1, k2, k3⟩ := a7 hH; exact ml (by rw [cQ, if_neg fm]; exact k1) k2 k3
       have N7 : c1.own b = some (.sp x.a x.j) := BR.stay b BR.own (fun y _ q e => by rw [BR.g0] at e; cases e); obtain ⟨Vz, hb5⟩ := KR b N7; have Li : ∀ (i : Nat) zz, (A.xs.set x.i z')[i]? = some zz → fp w' (fun p k => (c5.gK ((List.range l.length).map (fun n => (P, n))) (.sp x.a x.j)).own k = some (.sp x.a x.j) ∧ g6 k = p) A.r [i] 0 b (o + i * A.r.width) zz := by
         intro i zz Rm; rw [List.getElem?_set] at Rm
         by_cases e : x.i = i
         · subst e; rw [if_pos rfl, if_pos BR.len] at Rm
           cases Rm
           obtain ⟨vs, r1, r2⟩ := (iw _ _ _ _ _ _).1 (BR.rows x.i z hz); have wR := cO.length _ _ _ _ _ r2; refine (iw _ _ _ _ _ _).2 ⟨vs, fun k v hkv => by rw [World.cell?_of_block (w := w) Vz]; exact r1 k v hkv, ?_⟩; refine AK 0 l z hj (fun m y hm B hB U7 Q6 hBr => ?_) ?_
           · rw [Nat.zero_add] at hB; obtain ⟨v, u1, u2, u3, u4⟩ := BR.out m y hm; obtain ⟨y', f1, f2, f3, f4⟩ := hPs m B hB; rw [hm] at f1
             cases f1
             have hk : y.k < vs.length := by rw [wR]; exact u4
             have hvk : vs[y.k]? = some vs[y.k] := List.getElem?_eq_getElem hk; have := r1 y.k _ hvk; rw [u1] at this; refine ⟨v, by rw [hvk, ← Option.some.inj this], ?_⟩; refine hG m B y hB U7 (by rw [Q6, hBr]) hm v u2 (by rw [f4, f2, f3, hP]; exact u3) _ _ (fun k hk => ⟨Cz.lf (rF m y hm) hk, ?_⟩); exact Zk m y k hm hk
           · refine gv.of _ [x.i] (fun k q kb hK hk => ?_) 0 vs z r2; have qk := BR.stay kb hk.1 (fun y hy q' e => hK ⟨y, hy, by
               have h2 := hk.2; rw [e] at h2; simp at h2; exact h2.1⟩)
             obtain ⟨f1, f2⟩ := KR kb qk; exact ⟨f1, LL kb f2, by rw [Rn kb f2]; exact hk.2⟩
         · rw [if_neg e] at Rm; refine fp.go _ [i] [i] (fun q kb hk => ?_) _ _ _ zz Vz (BR.rows i zz Rm); have qk := BR.stay kb hk.1 (fun y _ q' e' => e (by
             have h2 := hk.2; rw [e'] at h2; simp at h2; exact h2.1))
           obtain ⟨f1, f2⟩ := KR kb qk; exact ⟨f1, LL kb f2, by rw [Rn kb f2]; exact hk.2⟩
       refine ⟨_, hrl.swap hH' (B := A.put (A.xs.set x.i z')) (by rw [q2, e1]; rfl) (by rw [q3, e2]; show (A.xs.set x.i z').length = _; simp) ?_⟩; unfold bF at hA ⊢; show match c5.lc x.a x.j with | .nil => _ | .at b off cap => _
       rw [Zj]; rw [BR.lc] at hA; obtain ⟨_, g2, ⟨cur, ty, g3, g4⟩, _⟩ := hA; refine ⟨?_, by show (A.xs.set x.i z').length ≤ cap; simpa using g2, ⟨cur, ty, by rw [Vz]; exact g3, g4⟩, ?_⟩
       · show match A.own with | true => _ | false => _
         rw [eK]; exact LL b hb5
       · unfold bj; show match A.md with | .sh => _ | .dp => _ | .ho _ => _
         rw [uY]; exact ⟨g6, by rw [Rn b hb5]; exact BR.g0, Li⟩
theorem II {α β : Type} (f : α → β) : (l : List α) → (n : Nat) → nth (l.map f) n = (nth l n).map f
 | [], _ => rfl
 | _ :: _, 0 => rfl
 | _ :: l, n + 1 => II f l n
theorem mD (st : St) (s : Nat) : nth (rq st) s = (nth st s).map (PG st) := II _ _ _
theorem CG (st : St) (a j g : Nat) : aQ (rq st) a j g = aQ st a j g := by
 unfold aQ; rw [mD]
 cases nth st a <;> rfl
theorem CH (st : St) (a : Nat) : cM (rq st) a = cM st a := by
 unfold cM; rw [mD]
 cases nth st a <;> rfl
theorem CI (st : St) (a : Nat) : fK (rq st) a = fK st a := by
 unfold fK; rw [mD]
 cases nth st a <;> rfl
theorem LM (st : St) (a : Nat) : kW (rq st) a = kW st a := by
 unfold kW; rw [mD]
 cases nth st a <;> rfl
theorem CJ (st : St) (b g : Nat) : de (rq st) b g = (de st b g).map fun cs => cs.map (yF st) := by
 unfold de; rw [mD]
 cases nth st b with
 | none => rfl
 | some x =>
   show (bif Nat.beq x.bg g then x.box.map _ else none) = _; simp only
   cases Nat.beq x.bg g <;> rfl
theorem Fw.rq (c : Cz) (st : St) (w : World) : Fw c st w c (rq st) w where
 stays := gI.refl w _
 refs a j g A' _ dP := by
   rw [CG] at dP; exact ⟨A', dP, rfl, rfl, rfl, fun _ => ⟨rfl, fun _ _ _ _ => rfl⟩⟩
 zM b g lI _ h := by
   rw [CJ] at h; obtain ⟨cs, h1, _⟩ := Option.map_eq_some_iff.1 h; exact ⟨⟨cs, h1⟩, rfl⟩
 gA a := by rw [CH]; exact Nat.le_refl _
 gB a := by rw [CI]; exact Nat.le_refl _
 gE a := by rw [LM]; exact Nat.le_refl _
theorem E6 {w0 : World} {mu : Mu} {c : Cz} {st : St} {a : Act} {w : World} (h : Rel w0 mu c st a w) {x : CV} {v : Value} (hr : iv c st w x v) : iv c st w (yF st x) v := by
 unfold yF
 split
 · split
   · rename_i A hA
     cases ho : A.own with
     | true => exact hr
     | false =>
       cases hm : A.md.is .sh with
       | false => exact hr
       | true =>
         have hm := Md.kq.1 hm; exact wW (h.qD hA) (hr.2.2 A hA) (ok := c.ok) (fun b h => h) (fun b q => by
           rcases q with q | q
           · rw [ho] at q; cases q
           · rw [hm] at q; cases q) (by rw [hm]; rfl)
   · exact hr
 · exact hr
theorem E7 {w0 : World} {mu : Mu} {c : Cz} {st : St} {a : Act} {w : World} (h : Rel w0 mu c st a w) {cs : List CV} {vs : List Value} (hr : ew c st w cs vs) : ew c (rq st) w (cs.map (yF st)) vs := by
 refine ⟨by rw [List.length_map]; exact hr.1, fun i x v h1 h2 => ?_⟩; rw [List.getElem?_map] at h1; obtain ⟨y, hy, rfl⟩ := Option.map_eq_some_iff.1 h1; exact (Fw.rq c st w).K8 (E6 h (hr.2 i y v hy h2))
theorem LN {w0 : World} {mu : Mu} {c : Cz} {st : St} {a : Act} {w : World} (h : Rel w0 mu c st a w) {x : V} {v : Value} (hr : ea c st w x v) : ea c (rq st) w (K6 st x) v := by
 cases x with
 | one x => exact (Fw.rq c st w).K8 (E6 h hr)
 | agg cs =>
   obtain ⟨vs, h1, h2⟩ := hr; exact ⟨vs, h1, E7 h h2⟩
 | kX us => exact (Fw.rq c st w).la hr
theorem Rel.rq {w0 : World} {mu : Mu} {c : Cz} {st : St} {a : Act} {w : World} (h : Rel w0 mu c st a w) : Rel w0 mu c (rq st) a w where
 eR t := by
   have e : bI (Go.TM.rq st) t = K6 st (bI st t) := by
     unfold bI; rw [mD]
     cases nth st t <;> rfl
   rw [e]; exact LN h (h.eR t)
 boxes s sl cs hs hb := by
   rw [mD] at hs; obtain ⟨x, hx, rfl⟩ := Option.map_eq_some_iff.1 hs; have hb : x.box.map (fun cs => cs.map (yF st)) = some cs := hb; obtain ⟨KP, hc, rfl⟩ := Option.map_eq_some_iff.1 hb; obtain ⟨k1, vs, ty, k2, k3⟩ := h.boxes s x KP hx hc; exact ⟨k1, vs, ty, k2, E7 h k3⟩
 aJ s j sl A hs hb := by
   rw [mD] at hs; obtain ⟨x, hx, rfl⟩ := Option.map_eq_some_iff.1 hs; exact h.aJ s j x A hx hb
 owned := h.owned
 free := h.free
 kept := h.kept
 old := h.old
 plain := h.plain
 dO p hp := by
   have h0 := h.dO p hp
   cases p with
   | arr a j g W n l =>
     refine ⟨by rw [CH]; exact h0.1, fun A hA => ?_⟩; rw [CG] at hA; exact h0.2 A hA
   | box b g lP =>
     refine ⟨by rw [CI]; exact h0.1, fun cs tp => ?_⟩; rw [CJ] at tp; obtain ⟨KP, hc, _⟩ := Option.map_eq_some_iff.1 tp; exact h0.2 KP hc
theorem E8 {w0 : World} {mu : Mu} {c : Cz} {st : St} {a : Act} {w : World} (ms : List (Pm × V)) (h : Rel w0 mu c st a w) : Rel w0 mu c (yG ms st) a w ∧ ∀ x v, ea c st w x v → ea c (yG ms st) w x v := by
 unfold yG
 cases ms.any (fun m => m.1.K7)
 · exact ⟨h, fun _ _ hr => hr⟩
 · exact ⟨h.rq, fun _ _ hr => (Fw.rq c st w).la hr⟩
theorem E9 {P : Program} {S : hZ} (hS : kC P S) {w0 : World} {mu : Mu} {c : Cz} {st aP : St} {a : Act} {w : World} (h : Rel w0 mu c st a w) {o : Oper} {f : FuncId} {vals : Array Value} {xs : List V}
   (mA : ∀ fn, P.funcs[f]? = some fn → fn.name ≠ "runtime.NumGoroutine" → fn.body ≠ none → (execOp a.eval o).run P w = .ok (.enter f vals) w)
   (Iu : xs.length = vals.toList.length) (VA : ∀ (k : Nat) (m : V) (x : Value), xs[k]? = some m → vals.toList[k]? = some x → ea c st w m x)
   (hv : (Cq S st o.dst f xs).val = some aP) (hd : ∀ k, o.dst = some k → k < a.tmps.size) : tG P w0 mu aP o a w (oA S st f xs) := by
 unfold oA; unfold Cq at hv
 cases hf : S f with
 | none => simp [hf, N.val] at hv
 | some p =>
   obtain ⟨m1, m2, m3, yE⟩ := p; simp only [hf] at hv ⊢; obtain ⟨JC, fn, LO, Zl, VB⟩ := hS f m1 m2 m3 yE hf; have mA := mA fn LO (by simpa using Zl) (by intro e; rw [e] at VB; cases VB); have Ro := JB m1 m2 m3 xs; generalize sO m1 m2 m3 xs = ms at hv Ro ⊢; have hlen : ms.length = vals.toList.length := by
     have := congrArg List.length Ro; rw [List.length_map] at this; omega
   have tL : ∀ (k : Nat) (m : Pm × V) (x : Value), ms[k]? = some m → vals.toList[k]? = some x → ea c st w m.2 x := by
     intro k m x hm hx; have h1 : (ms.map (·.2))[k]? = some m.2 := by rw [List.getElem?_map, hm]; rfl
     rw [Ro] at h1; exact VA k m.2 x h1 hx
   have hR := h.freeze (z8 st ms); have yX : ∀ (k : Nat) (m : Pm × V) (x : Value), ms[k]? = some m → vals.toList[k]? = some x → ea (c.drop (z8 st ms)) (freeze st (z8 st ms)) w m.2 x := fun k m x h1 h2 => (Fw.freeze w _ c st).la (tL k m x h1 h2)
   generalize freeze st (z8 st ms) = VC at hv hR yX ⊢; generalize c.drop (z8 st ms) = c0 at hR yX; have yX : ∀ (k : Nat) (m : Pm × V) (x : Value), ms[k]? = some m → vals.toList[k]? = some x → ea c0 (yG ms VC) w m.2 x := fun k m x h1 h2 => (E8 ms hR).2 _ _ (yX k m x h1 h2)
   have hR := (E8 ms hR).1; generalize yG ms VC = tK at hv hR yX ⊢; unfold PF at hv
   cases re : kg tK ms with
   | none =>
     rw [re] at hv; exact E1 hR mA JC hlen yX hv hd (fun h => h) (fun c5 fI a2 w' hr _ _ JD => by
       simp only [N.val, Option.some.injEq] at JD; subst JD; exact ⟨c5, hr⟩)
   | some p =>
     obtain ⟨x, A, l⟩ := p; rw [re] at hv; simp only at hv ⊢; have VD : ∀ m ∈ ms, ∃ v, ea c0 tK w m.2 v := by
       intro m hm; obtain ⟨k, hk⟩ := List.mem_iff_getElem?.1 hm; have bQ : k < vals.toList.length := by rw [← hlen]; exact (List.getElem?_eq_some_iff.1 hk).1
       exact ⟨_, yX k m _ hk (List.getElem?_eq_getElem bQ)⟩
     obtain ⟨c1, gg, b, oo, cap, Zm, Yf, BR, Fa⟩ := tN hR re VD; obtain ⟨hl, hA, eK, uY, hep, oS, JG, fm⟩ := xp re; refine E1 Zm mA JC (by rw [List.length_map]; exact hlen) (fun k m v h1 h2 => ?_) hv hd (fun h => by cases h) (fun c5 fI a2 w' hr hf KR JD => ?_)
     · rw [List.getElem?_map] at h1; obtain ⟨m0, hm0, rfl⟩ := Option.map_eq_some_iff.1 h1; exact Fa m0 (List.mem_of_getElem? hm0) v (yX k m0 v hm0 h2)
     · refine LK fm hA eK uY (hR.qD hA) JG BR hr hf (fun k hk => ?_) JD; have JH : ¬ tM (dN tK x A l) (x.a, x.j) := by
         rintro ⟨g', B, hB, Q6⟩
         obtain ⟨sl, k1, k2, k3⟩ := a7 hB; rw [tO fm, if_neg fm, if_pos rfl] at k1; obtain ⟨zz, Rm, rfl⟩ := Option.map_eq_some_iff.1 k1; simp only at k3; rw [cQ, if_pos rfl] at k3
         cases hq : nth zz.aJ x.j with
         | none => rw [hq] at k3; cases k3
         | some B2 =>
           rw [hq] at k3; simp only [Option.map_some, Option.some.injEq] at k3; subst k3
           cases Q6
       cases hex : gr (dN tK x A l) (ms.map (Oe (tK.length - 1) (lM tK (tK.length - 1) + 1) l)) with
       | none =>
         unfold Et at hv; rw [hex] at hv
         cases hv
       | some pp =>
         obtain ⟨cT, u, q, r⟩ := pp; obtain ⟨l1, l2⟩ := yV _ hex; exact KR cT u q r hex k _ rfl (fun hm => JH (l1 _ _ hm)) (fun p hp e => by
           injection e with e1 e2; exact JH (by rw [e1, e2]; exact l2 p hp)) hk
theorem LP {P : Program} {S : hZ} (hS : kC P S) {w0 : World} {mu : Mu} {c : Cz} {st aP : St} {a : Act} {w : World} (h : Rel w0 mu c st a w) {o : Oper} {f : FuncId} {args : Array Operand} {Jt : Array TypeId} (ho : o.op = .call { callee := .value (.func f), args := args, argTypes := Jt })
   (hv : (Cq S st o.dst f (args.toList.map (jY st))).val = some aP) (hd : ∀ k, o.dst = some k → k < a.tmps.size) : tG P w0 mu aP o a w (kindOk S st o .one) := by
 have Zn : kindOk S st o .one = oA S st f (args.toList.map (jY st)) := by unfold kindOk; simp only [ho]
 rw [Zn]; refine E9 (vals := args.map a.eval) hS h (fun fn LO q2 q3 => ?_) (by simp) (fun k m x hm hx => ?_) hv hd
 · simp only [execOp, ho]; simp [resolve, Act.eval, Deferred.ofValue, invoke, callFunc, Sem.run_bind, LO, q2, q3]
 · rw [List.getElem?_map] at hm; rw [Array.toList_map, List.getElem?_map] at hx
   cases hy : args.toList[k]? with
   | none => rw [hy] at hm; simp at hm
   | some y =>
     rw [hy] at hm hx; simp only [Option.map_some, Option.some.injEq] at hm hx; rw [← hm, ← hx]; exact a8 h y
theorem LQ {P : Program} {S : hZ} (hS : kC P S) {w0 : World} {mu : Mu} {c : Cz} {st aP : St} {a : Act} {w : World} (h : Rel w0 mu c st a w) {o : Oper} {t g : Nat} {rs : RT} {xs : List (ak rs)} {x : ak rs} {args : Array Operand} {Jt : Array TypeId} (ho : o.op = .call { callee := .value (.tmp t), args := args, argTypes := Jt })
   (ht : bI st t = .one (.fn g rs xs)) (Lc : xs[0]? = some x) (hv : (Cq S st o.dst g (args.toList.map (jY st) ++ sP rs x)).val = some aP) (hd : ∀ k, o.dst = some k → k < a.tmps.size) : tG P w0 mu aP o a w (kindOk S st o .one) := by
 have Zn : kindOk S st o .one = oA S st g (args.toList.map (jY st) ++ sP rs x) := by unfold kindOk; simp only [ho, ht, Lc]
 rw [Zn]; have JC := h.eR t; rw [ht] at JC; obtain ⟨uX, e, VE⟩ := JC; obtain ⟨k1, k2⟩ := EL (st := st) rs uX.toList x (VE x Lc); refine E9 (vals := args.map a.eval ++ uX) hS h (fun fn LO q2 q3 => ?_) (by simp [k1]) (fun k m y hm hy => ?_) hv hd
 · simp only [execOp, ho]; simp [resolve, e, Deferred.ofValue, invoke, callFunc, Sem.run_bind, LO, q2, q3]
 · rw [Array.toList_append] at hy
   by_cases hk : k < args.size
   · rw [List.getElem?_append_left (by simpa using hk)] at hm hy; rw [List.getElem?_map] at hm; rw [Array.toList_map, List.getElem?_map] at hy
     cases hz : args.toList[k]? with
     | none => rw [hz] at hm; simp at hm
     | some z =>
       rw [hz] at hm hy; simp only [Option.map_some, Option.some.injEq] at hm hy; rw [← hm, ← hy]; exact a8 h z
   · rw [List.getElem?_append_right (by simp; omega)] at hm hy; simp only [List.length_map, Array.length_toList, Array.toList_map] at hm hy; exact k2 _ m y hm hy
theorem G2 {P : Program} {T : jh} (hT : fi P T) {S : hZ} {w0 : World} {mu : Mu} {c : Cz} {st aP : St} {a : Act} {w : World} (h : Rel w0 mu c st a w) {o : Oper} (re : Eu st o = true)
   (hv : (Gm T S st o).val = some aP) (hd : ∀ k, o.dst = some k → k < a.tmps.size) : tG P w0 mu aP o a w (kindOk S st o .one) := by
 unfold Eu at re
 cases ho : o.op with
 | call cl =>
   obtain ⟨callee, args, Jt⟩ := cl; rw [ho] at re
   cases callee with
   | builtin b =>
     cases b with
     | append =>
       unfold Gm at hv; simp only [ho] at hv re
       split at hv
       · contradiction
       · rename_i x y t u _ ha ht; obtain ⟨Rc, wS⟩ := cW hv; have Rc := Nat.eq_of_beq_eq_true Rc; subst Rc; have ha : args = #[x, y] := by rw [← Array.toArray_toList (xs := args), ha]
         have ht : Jt = #[t, t] := by rw [← Array.toArray_toList (xs := Jt), ht]
         subst ha ht; have re : (kg st [(.io, jY st x)]).isSome = true := re; obtain ⟨p, hp⟩ := Option.isSome_iff_exists.1 re; obtain ⟨z, A, l⟩ := p; unfold Dp at wS; rw [hp] at wS; obtain ⟨c1, gg, b, oo, cap, Zm, Yf, BR, Fa⟩ := tN h hp (fun m hm => by
           rw [List.mem_singleton] at hm; subst hm; exact ⟨_, a8 h x⟩)
         have hx := Fa _ (List.mem_singleton.2 rfl) _ (a8 h x); have hy := Yf.la (a8 h y); obtain ⟨v, w', h1, c', h2⟩ := An (ty := o.type) hT Zm hx hy wS hd; exact rG (c' := c') (by simp only [execOp, ho]; simp [resolve, invoke, builtin, Sem.run_bind, h1]) h2 (fun hk => by simp [kindOk, ho] at hk)
       all_goals (first | contradiction | (simp [N.val] at hv))
     | _ => simp at re
   | _ => simp at re
 | _ => rw [ho] at re; simp at re
theorem nY {P : Program} {T : jh} (hT : fi P T) (hE : uZ P T) {S : hZ} (hS : kC P S) (w0 : World) (mu : Mu) (n : Nat) : p8 P T S w0 mu n := by
 intro c st aP a w o h hn hd hv; have G1 : ∀ k, o.dst = some k → k < a.tmps.size := fun k hk => by rw [hn]; exact hd k hk
 by_cases hf : Op.GS o.op = true
 · cases ho : o.op with
   | call cl =>
     obtain ⟨callee, args, Jt⟩ := cl
     cases callee with
     | value x =>
       cases x with
       | func f =>
         unfold Gm at hv; simp only [ho] at hv; exact LP hS h ho hv G1
       | tmp t =>
         unfold Gm at hv; simp only [ho] at hv
         split at hv
         · rename_i g rs xs ht
           cases Lc : xs[0]? with
           | none => simp [Lc, N.val] at hv
           | some x =>
             simp only [Lc] at hv; exact LQ hS h ho ht Lc hv G1
         · simp [N.val] at hv
       | _ => rw [ho] at hf; simp [Op.GS] at hf
     | _ => rw [ho] at hf; simp [Op.GS] at hf
   | _ => rw [ho] at hf; simp [Op.GS] at hf
 · cases re : Eu st o with
   | false => exact Rb hT hE h (by simpa using hf) re hv G1
   | true => exact G2 hT h re hv G1
end Go.TM
namespace Go.TM
open Go Go.RowKit
inductive OP where
 | int (k : IntKind)
 | bool
 | str
 | own (r : RT) (d : Md := .sh)
 | shr (r : RT)
 | ke (r : RT)
 | fn (g : Nat) (rs : RT)
inductive AP where
 | val (agg : Bool) (ps : List OP)
 | io (r : RT) (d : Md := .sh)
 | box (Dk : Bool) (ps : List OP)
 | bp (ps : List OP)
def OP.ty : OP → Ty
 | .int k => .int k
 | .bool => .bool
 | .str => .str
 | .own r _ => .sl r
 | .shr r => .sl r
 | .ke r => .sl r
 | .fn _ rs => .sl rs
def OP.lN : OP → Bool
 | .own _ _ => true
 | _ => false
def j2 : List OP → RT → RT
 | [], t => t
 | p :: ps, t => .cons p.ty (j2 ps t)
def AP.rt : AP → RT → RT
 | .val _ ps, t => j2 ps t
 | .io r _, t => .cons (.sl r) t
 | .box _ ps, t => j2 ps t
 | .bp ps, t => j2 ps t
def ar : List (Option AP) → RT
 | [] => .nil
 | none :: l => ar l
 | some p :: l => p.rt (ar l)
def OP.ov : (p : OP) → den p.ty → OV
 | .int k, n => .int k n
 | .bool, b => .bool b
 | .str, s => .str s
 | .own r d, xs => .own { r := r, own := true, xs := xs, md := d }
 | .shr r, xs => .shr r xs
 | .ke r, xs => .ke r xs
 | .fn g rs, xs => .fn g rs xs
def cR : (ps : List OP) → (t : RT) → ak (j2 ps t) → List OV × ak t
 | [], _, x => ([], x)
 | p :: ps, t, x => (p.ov x.1 :: (cR ps t x.2).1, (cR ps t x.2).2)
def AP.av : (p : AP) → (t : RT) → ak (p.rt t) → AV × ak t
 | .val agg ps, t, x => (.val agg (cR ps t x).1, (cR ps t x).2)
 | .io r d, _, x => (.io { r := r, own := true, xs := x.1, md := d }, x.2)
 | .box _ ps, t, x => (.box (cR ps t x).1, (cR ps t x).2)
 | .bp ps, t, x => (.bp (cR ps t x).1, (cR ps t x).2)
def bM : (l : List (Option AP)) → ak (ar l) → List (Option AV)
 | [], _ => []
 | none :: l, x => none :: bM l x
 | some p :: l, x => some (p.av (ar l) x).1 :: bM l (p.av (ar l) x).2
def oW : (p : OP) → OV → Option (den p.ty)
 | .int k, .int l n => if k = l then some n else none
 | .bool, .bool b => some b
 | .str, .str s => some s
 | .own r d, .own A => bif A.md.is d then bo r A.xs else none
 | .own _ _, .dq => some ([] : List _)
 | .shr r, .shr _ xs => bo r xs
 | .shr _, .dq => some ([] : List _)
 | .ke r, .ke _ xs => bo r xs
 | .fn g rs, .fn f _ xs => bif Nat.beq f g then bo rs xs else none
 | _, _ => none
def cI : (ps : List OP) → (t : RT) → List OV → ak t → Option (ak (j2 ps t))
 | [], _, [], y => some y
 | p :: ps, t, o :: os, y => match oW p o, cI ps t os y with
   | some x, some z => some (x, z)
   | _, _ => none
 | _, _, _, _ => none
def CK : (p : AP) → (t : RT) → AV → ak t → Option (ak (p.rt t))
 | .val true ps, t, .val true os, y => cI ps t os y
 | .val false ps, t, .val false os, y => cI ps t os y
 | .io r d, _, .io A, y => bif A.md.is d then (match bo r A.xs with
   | some xs => some (xs, y)
   | none => none) else none
 | .box _ ps, t, .box os, y => cI ps t os y
 | .bp ps, t, .bp os, y => cI ps t os y
 | _, _, _, _ => none
def ey : (l : List AP) → List AV → Option (ak (ar (l.map some)))
 | [], [] => some ()
 | p :: l, a :: as => match ey l as with
   | some y => CK p (ar (l.map some)) a y
   | none => none
 | _, _ => none
def jo (st : St) : (ps : List OP) → (t : RT) → List CV → ak t → Option (ak (j2 ps t) × List (Option Lb) × List (Nat × Nat))
 | [], _, [], y => some (y, [], [])
 | p :: ps, t, c :: cs, y => match eW st p.lN c, jo st ps t cs y with
   | some (o, u, r), some (z, us, rs) => match oW p o with
     | some x => some ((x, z), u :: us, r ++ rs)
     | none => none
   | _, _ => none
 | _, _, _, _ => none
def yY (st : St) (k : Nat) : (p : AP) → (t : RT) → V → ak t → Option (ak (p.rt t) × List Lb × List (Nat × Nat))
 | .val agg ps, t, v, y =>
   match agg, v with
   | true, .agg cs => (jo st ps t cs y).map fun q => (q.1, bu q.2.1, q.2.2)
   | false, .one c => (jo st ps t [c] y).map fun q => (q.1, bu q.2.1, q.2.2)
   | _, _ => none
 | .io r d, _, v, y =>
   match v with
   | .one (.ref a j g .full) => bif Nat.beq a k && (Nat.beq j 0 && Nat.beq g 1) then ((aQ st a j g).bind fun A => bif A.own && A.md.is d then (bo r A.xs).map fun xs => ((xs, y), [.sp a j], []) else none) else none
   | _ => none
 | .box Dk ps, t, v, y =>
   match v with
   | .one (.ptr b g off) => bif Nat.beq off 0 && (!Dk || (Nat.beq b k && Nat.beq g 1)) then ((de st b g).bind fun cs => (jo st ps t cs y).map fun q => (q.1, .box b :: bu q.2.1, q.2.2)) else none
   | _ => none
 | .bp _, _, _, _ => none
def lj (st : St) : (k : Nat) → (l : List (Option AP)) → Option (ak (ar l) × List Lb × List (Nat × Nat))
 | _, [] => some ((), [], [])
 | k, none :: l => lj st (k + 1) l
 | k, some p :: l => match lj st (k + 1) l with
   | some (y, us, rs) => match yY st k p (ar l) (bI st k) y with
     | some (x, u, r) => some (x, u ++ us, r ++ rs)
     | none => none
   | none => none
def Sl.blank : Sl := { v := .one .bad, box := .none, bg := 1, aJ := [], ag := 1 }
def cn (k : Nat) : Option AV → Sl
 | none => Sl.blank
 | some (.bp os) => { v := .agg (aU k 1 0 os), box := none, bg := 1, aJ := aV os, ag := 1 }
 | some (.val true os) => { v := .agg (aU k 1 0 os), box := none, bg := 1, aJ := aV os, ag := 1 }
 | some (.val false os) => { v := match aU k 1 0 os with | [c] => .one c | _ => .one .bad, box := none, bg := 1, aJ := aV os, ag := 1 }
 | some (.io A) => { v := .one (.ref k 0 1 .full), box := none, bg := 1, aJ := [some A], ag := 1 }
 | some (.box os) => { v := .one (.ptr k 1 0), box := some (aU k 1 0 os), bg := 1, aJ := aV os, ag := 1 }
def lQ : (k : Nat) → List (Option AV) → St
 | _, [] => []
 | k, a :: l => cn k a :: lQ (k + 1) l
theorem CL : (l : List (Option AV)) → (k i : Nat) → nth (lQ k l) i = (l[i]?).map (cn (k + i))
 | [], _, _ => by simp [lQ]
 | a :: l, k, 0 => by simp [lQ, nth]
 | a :: l, k, i + 1 => by
   simp only [lQ, nth, List.getElem?_cons_succ]; rw [CL l (k + 1) i, show k + 1 + i = k + (i + 1) by omega]
theorem Fb {c : Cz} {w : World} {f : Nat → Lb} {j : Nat} : (p : OP) → (o : OV) → (x : den p.ty) → oW p o = some x → {os xi : List OV} → {vs : List Value} → (∀ l, ba c w f (j + 1) os l → ba c w f (j + 1) xi l) → ba c w f j (o :: os) vs → ba c w f j (p.ov x :: xi) vs
 | .int k, .int l n, x, hx, os, xi, vs, ql, h => by
   have hx : (if k = l then some (n : Int) else none) = some (x : Int) := hx
   by_cases e : k = l
   · rw [if_pos e] at hx; have hx : n = x := Option.some.inj hx; obtain ⟨l', h1, h2⟩ := h; exact ⟨l', by rw [h1, e, hx], ql _ h2⟩
   · rw [if_neg e] at hx
     cases hx
 | .bool, .bool b, x, hx, os, xi, vs, ql, h => by
   have hx : b = x := Option.some.inj hx; subst hx; obtain ⟨l', h1, h2⟩ := h; exact ⟨l', h1, ql _ h2⟩
 | .str, .str b, x, hx, os, xi, vs, ql, h => by
   have hx : b = x := Option.some.inj hx; subst hx; obtain ⟨l', h1, h2⟩ := h; exact ⟨l', h1, ql _ h2⟩
 | .own r d, .own A, x, hx, os, xi, vs, ql, h => by
   obtain ⟨v, l', h1, ⟨lc, h2⟩, h3⟩ := h; have hx : (bif A.md.is d then bo r A.xs else none) = some x := hx; obtain ⟨hd, hx⟩ := aD hx; have hd := Md.kq.1 hd; obtain ⟨e, rfl⟩ := aX hx; obtain ⟨r0, GM, m7, Q7⟩ := A; simp only at e hd; subst e hd; have ho : GM = true := h2.2.2.1; subst ho; exact ⟨v, l', h1, ⟨lc, h2⟩, ql _ h3⟩
 | .own r _, .dq, x, hx, os, xi, vs, ql, h => by
   have hx : ([] : List (ak r)) = x := Option.some.inj hx; subst hx; obtain ⟨l', h1, h2⟩ := h; exact ⟨_, l', h1, ⟨.nil, rfl, ⟨rfl, rfl⟩, rfl, rfl⟩, ql _ h2⟩
 | .shr r, .shr q xs, x, hx, os, xi, vs, ql, h => by
   obtain ⟨v, l', h1, h2, h3⟩ := h; have hx : bo r xs = some x := hx; obtain ⟨e, rfl⟩ := aX hx; subst e; exact ⟨v, l', h1, h2, ql _ h3⟩
 | .shr r, .dq, x, hx, os, xi, vs, ql, h => by
   have hx : ([] : List (ak r)) = x := Option.some.inj hx; subst hx; obtain ⟨l', h1, h2⟩ := h; exact ⟨_, l', h1, (lO _ _ _ _ _).2 (.inl ⟨rfl, rfl⟩), ql _ h2⟩
 | .ke r, .ke q xs, x, hx, os, xi, vs, ql, h => by
   obtain ⟨v, l', h1, h2, h3⟩ := h; have hx : bo r xs = some x := hx; obtain ⟨e, rfl⟩ := aX hx; subst e; exact ⟨v, l', h1, h2, ql _ h3⟩
 | .fn g r, .fn f q xs, x, hx, os, xi, vs, ql, h => by
   obtain ⟨v, l', h1, h2, h3⟩ := h; have hx : (bif Nat.beq f g then bo r xs else none) = some x := hx; obtain ⟨Zo, hx⟩ := aD hx; have Zo := Nat.eq_of_beq_eq_true Zo; subst Zo; obtain ⟨e, rfl⟩ := aX hx; subst e; exact ⟨v, l', h1, h2, ql _ h3⟩
 | .int _, .bool _, _, hx, _, _, _, _, _ => by cases hx
 | .int _, .str _, _, hx, _, _, _, _, _ => by cases hx
 | .int _, .own _, _, hx, _, _, _, _, _ => by cases hx
 | .int _, .shr _ _, _, hx, _, _, _, _, _ => by cases hx
 | .int _, .dq, _, hx, _, _, _, _, _ => by cases hx
 | .int _, .ke _ _, _, hx, _, _, _, _, _ => by cases hx
 | .int _, .fn _ _ _, _, hx, _, _, _, _, _ => by cases hx
 | .bool, .int _ _, _, hx, _, _, _, _, _ => by cases hx
 | .bool, .str _, _, hx, _, _, _, _, _ => by cases hx
 | .bool, .own _, _, hx, _, _, _, _, _ => by cases hx
 | .bool, .shr _ _, _, hx, _, _, _, _, _ => by cases hx
 | .bool, .dq, _, hx, _, _, _, _, _ => by cases hx
 | .bool, .ke _ _, _, hx, _, _, _, _, _ => by cases hx
 | .bool, .fn _ _ _, _, hx, _, _, _, _, _ => by cases hx
 | .str, .int _ _, _, hx, _, _, _, _, _ => by cases hx
 | .str, .bool _, _, hx, _, _, _, _, _ => by cases hx
 | .str, .own _, _, hx, _, _, _, _, _ => by cases hx
 | .str, .shr _ _, _, hx, _, _, _, _, _ => by cases hx
 | .str, .dq, _, hx, _, _, _, _, _ => by cases hx
 | .str, .ke _ _, _, hx, _, _, _, _, _ => by cases hx
 | .str, .fn _ _ _, _, hx, _, _, _, _, _ => by cases hx
 | .own _ _, .int _ _, _, hx, _, _, _, _, _ => by cases hx
 | .own _ _, .bool _, _, hx, _, _, _, _, _ => by cases hx
 | .own _ _, .str _, _, hx, _, _, _, _, _ => by cases hx
 | .own _ _, .shr _ _, _, hx, _, _, _, _, _ => by cases hx
 | .own _ _, .ke _ _, _, hx, _, _, _, _, _ => by cases hx
 | .own _ _, .fn _ _ _, _, hx, _, _, _, _, _ => by cases hx
 | .shr _, .int _ _, _, hx, _, _, _, _, _ => by cases hx
 | .shr _, .bool _, _, hx, _, _, _, _, _ => by cases hx
 | .shr _, .str _, _, hx, _, _, _, _, _ => by cases hx
 | .shr _, .own _, _, hx, _, _, _, _, _ => by cases hx
 | .shr _, .ke _ _, _, hx, _, _, _, _, _ => by cases hx
 | .shr _, .fn _ _ _, _, hx, _, _, _, _, _ => by cases hx
 | .ke _, .int _ _, _, hx, _, _, _, _, _ => by cases hx
 | .ke _, .bool _, _, hx, _, _, _, _, _ => by cases hx
 | .ke _, .str _, _, hx, _, _, _, _, _ => by cases hx
 | .ke _, .own _, _, hx, _, _, _, _, _ => by cases hx
 | .ke _, .shr _ _, _, hx, _, _, _, _, _ => by cases hx
 | .ke _, .dq, _, hx, _, _, _, _, _ => by cases hx
 | .ke _, .fn _ _ _, _, hx, _, _, _, _, _ => by cases hx
 | .fn _ _, .int _ _, _, hx, _, _, _, _, _ => by cases hx
 | .fn _ _, .bool _, _, hx, _, _, _, _, _ => by cases hx
 | .fn _ _, .str _, _, hx, _, _, _, _, _ => by cases hx
 | .fn _ _, .own _, _, hx, _, _, _, _, _ => by cases hx
 | .fn _ _, .shr _ _, _, hx, _, _, _, _, _ => by cases hx
 | .fn _ _, .dq, _, hx, _, _, _, _, _ => by cases hx
 | .fn _ _, .ke _ _, _, hx, _, _, _, _, _ => by cases hx
theorem qK {c : Cz} {w : World} {f : Nat → Lb} : (ps : List OP) → (t : RT) → (os : List OV) → (y : ak t) → {x : ak (j2 ps t)} → cI ps t os y = some x → (cR ps t x).2 = y ∧ ∀ (j : Nat) (vs : List Value), ba c w f j os vs → ba c w f j (cR ps t x).1 vs
 | [], t, [], y, x, h => by
   have h : y = x := Option.some.inj h; subst h; exact ⟨rfl, fun _ _ h => h⟩
 | [], _, _ :: _, _, _, h => by simp [cI] at h
 | _ :: _, _, [], _, _, h => by simp [cI] at h
 | p :: ps, t, o :: os, y, x, h => by
   unfold cI at h
   cases h1 : oW p o with
   | none => simp [h1] at h
   | some a =>
     cases h2 : cI ps t os y with
     | none => simp [h1, h2] at h
     | some z =>
       simp only [h1, h2] at h; have h : (a, z) = x := Option.some.inj h; subst h; obtain ⟨g1, g2⟩ := qK (c := c) (w := w) (f := f) ps t os y h2; exact ⟨g1, fun j vs hh => Fb p o a h1 (fun l => g2 (j + 1) l) hh⟩
theorem ba.LR {c : Cz} {w : World} {f : Nat → Lb} : (os : List OV) → (j : Nat) → (vs : List Value) → ba c w f j os vs → vs.length = os.length ∧ ∀ (k : Nat) (o : OV) (u : Value), os[k]? = some o → vs[k]? = some u → ba c w f (j + k) [o] [u]
 | [], j, vs, h => by
   subst h; exact ⟨rfl, fun k o u h => by simp at h⟩
 | o :: os, j, vs, h => by
   obtain ⟨v, l, rfl, h1, h2⟩ : ∃ v l, vs = v :: l ∧ ba c w f j [o] [v] ∧ ba c w f (j + 1) os l := by
     cases o with
     | int k n => obtain ⟨l, h1, h2⟩ := h; exact ⟨_, l, h1, ⟨[], rfl, rfl⟩, h2⟩
     | bool b => obtain ⟨l, h1, h2⟩ := h; exact ⟨_, l, h1, ⟨[], rfl, rfl⟩, h2⟩
     | str b => obtain ⟨l, h1, h2⟩ := h; exact ⟨_, l, h1, ⟨[], rfl, rfl⟩, h2⟩
     | dq => obtain ⟨l, h1, h2⟩ := h; exact ⟨_, l, h1, ⟨[], rfl, rfl⟩, h2⟩
     | shr r xs => obtain ⟨v, l, h1, h2, h3⟩ := h; exact ⟨v, l, h1, ⟨v, [], rfl, h2, rfl⟩, h3⟩
     | ke r xs => obtain ⟨v, l, h1, h2, h3⟩ := h; exact ⟨v, l, h1, ⟨v, [], rfl, h2, rfl⟩, h3⟩
     | fn g r xs => obtain ⟨v, l, h1, h2, h3⟩ := h; exact ⟨v, l, h1, ⟨v, [], rfl, h2, rfl⟩, h3⟩
     | own A => obtain ⟨v, l, h1, h2, h3⟩ := h; exact ⟨v, l, h1, ⟨v, [], rfl, h2, rfl⟩, h3⟩
   obtain ⟨g1, g2⟩ := ba.LR os (j + 1) l h2; refine ⟨by simp [g1], fun k o' u ho hu => ?_⟩
   cases k with
   | zero =>
     simp only [List.getElem?_cons_zero, Option.some.injEq] at ho hu; subst ho hu; exact h1
   | succ k =>
     have := g2 k o' u (by simpa using ho) (by simpa using hu)
     rwa [show j + 1 + k = j + (k + 1) by omega] at this
theorem CM : (ps : List OP) → (t : RT) → (os : List OV) → (y : ak t) → {x : ak (j2 ps t)} → cI ps t os y = some x → ∀ (k : Nat) (o' : OV), (cR ps t x).1[k]? = some o' → ∃ (p : OP) (o : OV) (z : den p.ty), os[k]? = some o ∧ oW p o = some z ∧ o' = p.ov z
 | [], t, [], y, x, h => by
   intro k o' hk; simp [cR] at hk
 | [], _, _ :: _, _, _, h => by simp [cI] at h
 | _ :: _, _, [], _, _, h => by simp [cI] at h
 | p :: ps, t, o :: os, y, x, h => by
   unfold cI at h
   cases h1 : oW p o with
   | none => simp [h1] at h
   | some a =>
     cases h2 : cI ps t os y with
     | none => simp [h1, h2] at h
     | some z =>
       simp only [h1, h2] at h; have h : (a, z) = x := Option.some.inj h; subst h; intro k o' hk
       cases k with
       | zero =>
         have hk : some (p.ov a) = some o' := hk; simp only [Option.some.injEq] at hk; exact ⟨p, o, a, rfl, h1, hk.symm⟩
       | succ k =>
         have hk : (cR ps t z).1[k]? = some o' := hk; obtain ⟨p', o1, z', q1, q2, q3⟩ := CM ps t os y h2 k o' hk; exact ⟨p', o1, z', by simpa using q1, q2, q3⟩
theorem JI {p : OP} {o : OV} {z : den p.ty} (h : oW p o = some z) {A : fL} (he : p.ov z = .own A) : (∃ B, o = .own B ∧ A.r = B.r ∧ A.own = true ∧ A.xs.length = B.xs.length ∧ (B.own = true → A = B)) ∨ (o = .dq ∧ ∃ r d, A = { r := r, own := true, xs := ([] : List (ak r)), md := d }) := by
 cases p with
 | own r d =>
   injection he with he; subst he
   cases o with
   | own B =>
     have h : (bif B.md.is d then bo r B.xs else none) = some z := h; obtain ⟨hd, h⟩ := aD h; have hd := Md.kq.1 hd; obtain ⟨e, rfl⟩ := aX h; obtain ⟨r0, GM, m7, Q7⟩ := B; simp only at e hd; subst e hd; exact .inl ⟨_, rfl, rfl, rfl, rfl, fun ho => by simp only at ho; subst ho; rfl⟩
   | dq =>
     have h : ([] : List (ak r)) = z := Option.some.inj h; subst h; exact .inr ⟨rfl, r, d, rfl⟩
   | _ => cases h
 | int _ => cases he
 | bool => cases he
 | str => cases he
 | shr _ => cases he
 | ke _ => cases he
 | fn _ _ => cases he
theorem Fc {p : OP} (z : den p.ty) : p.ov z ≠ .dq := by
 cases p <;> (intro h; cases h)
theorem Fe {c : Cz} {w : World} {i : Nat} {lc : Nat → Loc} {p : AP} {t : RT} {av : AV} {y : ak t} {x : ak (p.rt t)} (h : CK p t av y = some x) : (p.av t x).2 = y ∧ ∀ v, p9 c w i lc av v → p9 c w i lc (p.av t x).1 v := by
 cases p with
 | val agg ps =>
   cases agg with
   | true =>
     cases av with
     | val OG os =>
       cases OG with
       | true =>
         have h : cI ps t os y = some x := h; obtain ⟨g1, g2⟩ := qK (c := c) (w := w) (f := .bG i) ps t os y h; exact ⟨g1, fun v ⟨vs, hv, hl⟩ => ⟨vs, hv, g2 0 _ hl⟩⟩
       | false => cases h
     | _ => cases h
   | false =>
     cases av with
     | val OG os =>
       cases OG with
       | false =>
         have h : cI ps t os y = some x := h; obtain ⟨g1, g2⟩ := qK (c := c) (w := w) (f := .bG i) ps t os y h; exact ⟨g1, fun v hl => g2 0 _ hl⟩
       | true => cases h
     | _ => cases h
 | io r d =>
   cases av with
   | io A =>
     have h : (bif A.md.is d then (match bo r A.xs with | some xs => some ((xs, y) : ak (.cons (.sl r) t)) | none => none) else none) = some x := h; obtain ⟨hd, h⟩ := aD h; have hd := Md.kq.1 hd
     cases hc : bo r A.xs with
     | none => rw [hc] at h; cases h
     | some xs =>
       rw [hc] at h
       cases h
       refine ⟨rfl, fun v hl => ?_⟩; obtain ⟨e, rfl⟩ := aX hc; obtain ⟨r0, GM, m7, Q7⟩ := A; simp only at e hd; subst e hd; have ho : GM = true := hl.2.2.1; subst ho; exact hl
   | _ => cases h
 | box Dk ps =>
   cases av with
   | box os =>
     have h : cI ps t os y = some x := h; obtain ⟨g1, g2⟩ := qK (c := c) (w := w) (f := .bG i) ps t os y h; exact ⟨g1, fun v ⟨lP, vs, ty, q1, q2, q3, q4⟩ => ⟨lP, vs, ty, q1, q2, q3, g2 0 _ q4⟩⟩
   | _ => cases h
 | bp ps =>
   cases av with
   | bp os =>
     have h : cI ps t os y = some x := h; obtain ⟨g1, g2⟩ := qK (c := c) (w := w) (f := .bG i) ps t os y h; refine ⟨g1, fun v ⟨vs, q1, q2, q3⟩ => ⟨vs, q1, g2 0 _ q2, fun j o u ho hu => ?_⟩⟩; obtain ⟨p, o0, z, k1, k2, rfl⟩ := CM ps t os y h j o ho; have h0 := q3 j o0 u k1 hu; have hL := (ba.LR os 0 _ q2).2 j o0 u k1 hu; unfold Lt at h0 ⊢
     cases he : p.ov z with
     | dq => exact absurd he (Fc z)
     | own A =>
       rcases JI k2 he with ⟨B, rfl, e1, e2, e3, e4⟩ | ⟨rfl, r, d, rfl⟩
       · have h0 : OwnAt c w (.bG i j) (lc j) B u := h0; have := e4 h0.2.2.1; subst this; exact h0
       · have h0 : lc j = .nil := h0; obtain ⟨l, hl, _⟩ := hL; injection hl with hl _; subst hl; show OwnAt c w (.bG i j) (lc j) _ _; rw [h0]; exact ⟨rfl, ⟨rfl, rfl⟩, rfl, rfl⟩
     | _ => trivial
   | _ => cases h
end Go.TM
namespace Go.TM
open Go Go.RowKit
theorem tP {w0 : World} {mu : Mu} {c : Cz} {st : St} {a : Act} {w : World} (h : Rel w0 mu c st a w) {ρ : Lb → Option Lb} {f : Nat → Lb} : (ps : List OP) → (t : RT) → (cs : List CV) → (y : ak t) → (vs : List Value) → (j : Nat) → ew c st w cs vs → {x : ak (j2 ps t)} → {u : List (Option Lb)} → {r : List (Nat × Nat)} →
   jo st ps t cs y = some (x, u, r) → (cR ps t x).2 = y ∧ (∀ l ∈ bu u, l.real = true) ∧ ((∀ k l, nth u k = some (some l) → ρ l = some (f (j + k))) → (∀ p ∈ r, ρ (.sp p.1 p.2) = none) → ba (c.map ρ) w f j (cR ps t x).1 vs)
 | [], t, [], y, vs, j, hl, x, u, r, he => by
   have he : some (y, ([] : List (Option Lb)), ([] : List (Nat × Nat))) = some (x, u, r) := he; injection he with he; injection he with e1 e2; injection e2 with e2 e3; subst e1 e2 e3; have := hl.1; simp at this; exact ⟨rfl, by simp [bu], fun _ _ => List.length_eq_zero_iff.1 this.symm⟩
 | [], t, _ :: _, y, vs, j, hl, x, u, r, he => by simp [jo] at he
 | _ :: _, t, [], y, vs, j, hl, x, u, r, he => by simp [jo] at he
 | p :: ps, t, cx :: cs, y, vs, j, hl, x, u, r, he => by
   obtain ⟨v, l, rfl, hx, vk⟩ := hl.PK; unfold jo at he
   cases hc : eW st p.lN cx with
   | none => simp [hc] at he
   | some q1 =>
     obtain ⟨o, u1, r1⟩ := q1
     cases hq : jo st ps t cs y with
     | none => simp [hc, hq] at he
     | some q2 =>
       obtain ⟨z, us, rs⟩ := q2; simp only [hc, hq] at he
       cases ho : oW p o with
       | none => simp [ho] at he
       | some a1 =>
         simp only [ho] at he; injection he with he; injection he with e1 e2; injection e2 with e2 e3; subst e1 e2 e3; obtain ⟨g1, g2, g3⟩ := tP h (ρ := ρ) (f := f) ps t cs y l (j + 1) vk hq; refine ⟨g1, fun l' hm => ?_, fun hu hr => ?_⟩
         · rw [fE] at hm; rcases List.mem_cons.1 hm with hm | hm
           · obtain ⟨s, k, rfl⟩ := CA hc l' hm.symm; rfl
           · exact g2 l' (fE.2 hm)
         · have eC := g3 (fun k' l' hk => by
             have := hu (k' + 1) l' hk
             rwa [show j + (k' + 1) = j + 1 + k' by omega] at this) (fun p hp => hr p (List.mem_append_right _ hp))
           have h1 := IE h (f := f) (j := j) hx hc (fun l' vk => hu 0 l' (by rw [vk]; rfl)) (fun p hp => hr p (List.mem_append_left _ hp)) eC; exact Fb p o a1 ho (fun _ h => h) h1
def ym (c : Cz) (w : World) (lc : Nat → Nat → Loc) (a : Act) (k : Nat) (l : List (Option AV)) : Prop :=
 ∀ i av, l[i]? = some (some av) → p9 c w (k + i) (lc (k + i)) av (a.eval (.tmp (k + i)))
theorem xr {w0 : World} {mu : Mu} {c : Cz} {st : St} {a : Act} {w : World} (h : Rel w0 mu c st a w) (k : Nat) {p : AP} {t : RT} {V : V} {y : ak t} {v : Value} (hV : ea c st w V v) {x : ak (p.rt t)} {u : List Lb} {r : List (Nat × Nat)} (he : yY st k p t V y = some (x, u, r)) :
   (p.av t x).2 = y ∧ (∀ l ∈ u, l.real = true) ∧ ∃ tb : List (Lb × Lb), tb.map (·.1) = u ∧ (∀ p ∈ tb, p.2.iT = true) ∧ ∀ ρ : Lb → Option Lb, (∀ p ∈ tb, ρ p.1 = some p.2) → (∀ p ∈ r, ρ (.sp p.1 p.2) = none) → p9 (c.map ρ) w k (c.lc k) (p.av t x).1 v := by
 have vals : ∀ (ps : List OP) (cs : List CV) (x : ak (j2 ps t)) (us : List (Option Lb)) (rs : List (Nat × Nat)) (vs : List Value), ew c st w cs vs → jo st ps t cs y = some (x, us, rs) → (cR ps t x).2 = y ∧ (∀ l ∈ bu us, l.real = true) ∧
     ∀ ρ : Lb → Option Lb, (∀ p ∈ xl (.bG k) 0 us, ρ p.1 = some p.2) → (∀ p ∈ rs, ρ (.sp p.1 p.2) = none) → ba (c.map ρ) w (.bG k) 0 (cR ps t x).1 vs := by
   intro ps cs x us rs vs hl hq; refine ⟨(tP h (ρ := fun _ => none) (f := .bG k) ps t cs y vs 0 hl hq).1, (tP h (ρ := fun _ => none) (f := .bG k) ps t cs y vs 0 hl hq).2.1, fun ρ hp hr => (tP h (ρ := ρ) (f := .bG k) ps t cs y vs 0 hl hq).2.2 (fun k' l hk => ?_) hr⟩; have := hp _ (tI (.bG k) 0 us k' l hk); simpa using this
 cases p with
 | val agg ps =>
   cases agg with
   | true =>
     cases V with
     | agg cs =>
       have he : (jo st ps t cs y).map (fun q => (q.1, bu q.2.1, q.2.2)) = some (x, u, r) := he
       cases hq : jo st ps t cs y with
       | none => rw [hq] at he; cases he
       | some q =>
         obtain ⟨z, us, rs⟩ := q; rw [hq] at he; injection he with he; injection he with e1 e2; injection e2 with e2 e3; subst e1 e2 e3; obtain ⟨vs, rfl, hl⟩ := hV; obtain ⟨g1, g2, g3⟩ := vals _ _ _ _ _ _ hl hq; exact ⟨g1, g2, ib k (.val true []) [] us, ky _ _ _ _, kz _ _ _ _, fun ρ hp hr => ⟨vs, rfl, g3 ρ (fun p jn => hp p (by simpa [ib] using jn)) hr⟩⟩
     | one _ => cases he
     | kX _ => cases he
   | false =>
     cases V with
     | one cx =>
       have he : (jo st ps t [cx] y).map (fun q => (q.1, bu q.2.1, q.2.2)) = some (x, u, r) := he
       cases hq : jo st ps t [cx] y with
       | none => rw [hq] at he; cases he
       | some q =>
         obtain ⟨z, us, rs⟩ := q; rw [hq] at he; injection he with he; injection he with e1 e2; injection e2 with e2 e3; subst e1 e2 e3; obtain ⟨g1, g2, g3⟩ := vals _ _ _ _ _ [v] ⟨rfl, fun k y z hy hz => by
           cases k with
           | zero => simp at hy hz; subst hy hz; exact hV
           | succ k => simp at hy⟩ hq
         exact ⟨g1, g2, ib k (.val true []) [] us, ky _ _ _ _, kz _ _ _ _, fun ρ hp hr => g3 ρ (fun p jn => hp p (by simpa [ib] using jn)) hr⟩
     | agg _ => cases he
     | kX _ => cases he
 | io rr d =>
   cases V with
   | one cx =>
     cases cx with
     | ref s j g vw =>
       cases vw with
       | full =>
         have he : (bif Nat.beq s k && (Nat.beq j 0 && Nat.beq g 1) then ((aQ st s j g).bind fun A => bif A.own && A.md.is d then (bo rr A.xs).map fun xs => ((xs, y), [Lb.sp s j], ([] : List (Nat × Nat))) else none) else none) = some (x, u, r) := he; obtain ⟨h1, u0⟩ := aD he; clear he; rw [Bool.and_eq_true, Bool.and_eq_true] at h1; have e1 := Nat.eq_of_beq_eq_true h1.1; have e2 := Nat.eq_of_beq_eq_true h1.2.1; subst e1 e2
         cases hA : aQ st s 0 g with
         | none => rw [hA] at u0; cases u0
         | some A =>
           rw [hA] at u0; obtain ⟨ho, Uq⟩ := aD u0; rw [Bool.and_eq_true] at ho; have hd := Md.kq.1 ho.2; have ho := ho.1
           cases hc : bo rr A.xs with
           | none => rw [hc] at Uq; cases Uq
           | some xs =>
             rw [hc] at Uq; injection Uq with Uq; injection Uq with e1 e2; injection e2 with e2 e3; subst e1 e2 e3; refine ⟨rfl, by simp [Lb.real], [(.sp s 0, .bG s 0)], rfl, by simp [Lb.iT], fun ρ hp _ => ?_⟩; have ha := uK h hA; have hs := hV.2.2 A hA; have hρ : ρ (.sp s 0) = some (.bG s 0) := hp (.sp s 0, .bG s 0) (by simp); obtain ⟨e, rfl⟩ := aX hc; obtain ⟨r0, GM, m7, Q7⟩ := A; simp only at e hd; subst e hd; have ho : GM = true := by first | exact ho | exact ho.1
             subst ho; refine ⟨hV.1, hs, rfl, ?_⟩; unfold bF at ha
             cases fO : c.lc s 0 with
             | nil => rw [fO] at ha; exact ha
             | «at» b off cap =>
               rw [fO] at ha; obtain ⟨h0, h2, h3, h4⟩ := ha; exact ⟨(Cz.iZ h0).trans hρ, h2, h3, h4.map hρ⟩
       | «from» _ => cases he
       | sub _ _ => cases he
     | _ => cases he
   | agg _ => cases he
   | kX _ => cases he
 | box Dk ps =>
   cases V with
   | one cx =>
     cases cx with
     | ptr b g off =>
       have he : (bif Nat.beq off 0 && (!Dk || (Nat.beq b k && Nat.beq g 1)) then ((de st b g).bind fun cs => (jo st ps t cs y).map fun q => (q.1, Lb.box b :: bu q.2.1, q.2.2)) else none) = some (x, u, r) := he; obtain ⟨h1, u0⟩ := aD he; clear he; rw [Bool.and_eq_true] at h1; have e1 := Nat.eq_of_beq_eq_true h1.1; subst e1
       cases hb : de st b g with
       | none => rw [hb] at u0; cases u0
       | some cs =>
         rw [hb] at u0; simp only [Option.bind_some] at u0
         cases hq : jo st ps t cs y with
         | none => rw [hq] at u0; cases u0
         | some q =>
           obtain ⟨z, us, rs⟩ := q; rw [hq] at u0; injection u0 with u0; injection u0 with e1 e2; injection e2 with e2 e3; subst e1 e2 e3; obtain ⟨sl, k1, k2, k3⟩ := fN hb; obtain ⟨h1, vs, ty, h2, h3⟩ := h.boxes b sl cs k1 k3; obtain ⟨g1, g2, g3⟩ := vals _ _ _ _ _ _ h3 hq; refine ⟨g1, fun l hl => ?_, ib k (.box []) [.box b] us, by rw [ky]; rfl, kz _ _ _ _, fun ρ hp hr => ⟨c.bx b, vs, ty, hV.2.2 cs hb, ?_, h2, g3 ρ (fun p jn => hp p (List.mem_append_right _ jn)) hr⟩⟩
           · rcases List.mem_cons.1 hl with rfl | hl
             · rfl
             · exact g2 l hl
           · exact (Cz.iZ h1).trans (hp (.box b, .qA k) (by simp [ib]))
     | _ => cases he
   | agg _ => cases he
   | kX _ => cases he
 | bp ps => cases he
theorem tQ {w0 : World} {mu : Mu} {c : Cz} {st : St} {a : Act} {w : World} (h : Rel w0 mu c st a w) : (l : List (Option AP)) → (k : Nat) → {x : ak (ar l)} → {u : List Lb} → {r : List (Nat × Nat)} → lj st k l = some (x, u, r) →
   (∀ l ∈ u, l.real = true) ∧ ∃ tb : List (Lb × Lb), tb.map (·.1) = u ∧ (∀ p ∈ tb, p.2.iT = true) ∧ ∀ ρ : Lb → Option Lb, (∀ p ∈ tb, ρ p.1 = some p.2) → (∀ p ∈ r, ρ (.sp p.1 p.2) = none) → ym (c.map ρ) w c.lc a k (bM l x)
 | [], k, x, u, r, he => by
   have he : some ((), ([] : List Lb), ([] : List (Nat × Nat))) = some (x, u, r) := he; injection he with he; injection he with _ e2; injection e2 with e2 e3; subst e2 e3; exact ⟨by simp, [], rfl, by simp, fun ρ _ _ i av hi => by simp [bM] at hi⟩
 | none :: l, k, x, u, r, he => by
   obtain ⟨g1, tb, g2, g3, g4⟩ := tQ h l (k + 1) he; refine ⟨g1, tb, g2, g3, fun ρ hp hr i av hi => ?_⟩
   cases i with
   | zero => simp [bM] at hi
   | succ i =>
     have := g4 ρ hp hr i av (by simpa [bM] using hi)
     rwa [show k + 1 + i = k + (i + 1) by omega] at this
 | some p :: l, k, x, u, r, he => by
   unfold lj at he
   cases h1 : lj st (k + 1) l with
   | none => simp [h1] at he
   | some q1 =>
     obtain ⟨y, us, rs⟩ := q1; simp only [h1] at he
     cases h2 : yY st k p (ar l) (bI st k) y with
     | none => simp [h2] at he
     | some q2 =>
       obtain ⟨x1, u1, r1⟩ := q2; simp only [h2] at he; injection he with he; injection he with e1 e2; injection e2 with e2 e3; subst e1 e2 e3; obtain ⟨g1, tb, g2, g3, g4⟩ := tQ h l (k + 1) h1; obtain ⟨a1, a2, ta, a3, a4, a5⟩ := xr h k (h.eR k) h2; refine ⟨fun l' hl => ?_, ta ++ tb, by simp [a3, g2], fun p hp => ?_, fun ρ hp hr i av hi => ?_⟩
       · rcases List.mem_append.1 hl with hl | hl
         · exact a2 l' hl
         · exact g1 l' hl
       · rcases List.mem_append.1 hp with hp | hp
         · exact a4 p hp
         · exact g3 p hp
       · cases i with
         | zero =>
           have hi : some (some (p.av (ar l) x1).1) = some (some av) := hi; simp only [Option.some.injEq] at hi; subst hi; exact a5 ρ (fun p jn => hp p (List.mem_append_left _ jn)) (fun p jn => hr p (List.mem_append_left _ jn))
         | succ i =>
           have hi : (bM l (p.av (ar l) x1).2)[i]? = some (some av) := hi; rw [a1] at hi; have := g4 ρ (fun p jn => hp p (List.mem_append_right _ jn)) (fun p jn => hr p (List.mem_append_right _ jn)) i av hi
           rwa [show k + 1 + i = k + (i + 1) by omega] at this
end Go.TM
namespace Go.TM
open Go Go.RowKit
def LS (L : List (Option AV)) (lc : Nat → Nat → Loc) (a : Act) : Jc → Prop
 | .arr i j g W n l => g = 1 ∧ i < L.length ∧ ∀ av, L[i]? = some (some av) → (∃ A, av = .io A ∧ (j = 0 → A.r.width = W ∧ A.xs.length = n ∧ lc i 0 = l)) ∨ ∃ os, av = .bp os ∧ ∀ A, os[j]? = some (.own A) → A.r.width = W ∧ A.xs.length = n ∧ lc i j = l
 | .box i g lP => g = 1 ∧ i < L.length ∧ ∀ os, L[i]? = some (some (.box os)) → a.eval (.tmp i) = .pointer (some ⟨lP, 0, none⟩)
def LU : Lb → Lb
 | .bG i j => .sp i j
 | .qA i => .box i
 | l => l
structure LV (c : Cz) (w : World) (k : Nat) (av : Option AV) (u : Value) (lio : Nat → Loc) (lP : Nat) (lcs : Nat → Loc) : Prop where
 arr : ∀ j A, nth (cn k av).aJ j = some (some A) → ∃ v, OwnAt c w (.bG k j) (lcs j) A v
 reg : ∀ (c2 : Cz) (fI : St), (∀ b, c.ok b → c2.ok b) → c2.bx k = lP → c2.lc k = lcs → nth fI k = some (cn k av) → ea c2 fI w (cn k av).v u
 box : ∀ cs, (cn k av).box = some cs → u = .pointer (some ⟨lP, 0, none⟩) ∧ c.own lP = some (.qA k) ∧ ∃ vs ty, w.heap[lP]? = some (.cells vs ty (0, 0)) ∧
   ∀ (c2 : Cz) (fI : St), (∀ b, c.ok b → c2.ok b) → c2.lc k = lcs → nth fI k = some (cn k av) → ew c2 fI w cs vs.toList
 io : ∀ A, av = some (.io A) → lcs 0 = lio 0
 bp : ∀ os, av = some (.bp os) → lcs = lio
theorem oC {st : St} {k j : Nat} {av : Option AV} {A : fL} (h : nth st k = some (cn k av)) (hA : aQ st k j 1 = some A) : nth (cn k av).aJ j = some (some A) := by
 obtain ⟨sl, h1, _, h3⟩ := a7 hA; rw [h] at h1; cases h1; exact h3
theorem oD {st : St} {k : Nat} {av : Option AV} (h : nth st k = some (cn k av)) : cM st k = 1 := by
 unfold cM; rw [h]
 cases av with
 | none => rfl
 | some av => cases av with
   | val agg os => cases agg <;> rfl
   | io A => rfl
   | box os => rfl
   | bp os => rfl
theorem CN {st : St} {k : Nat} {av : Option AV} (h : nth st k = some (cn k av)) : fK st k = 1 := by
 unfold fK; rw [h]
 cases av with
 | none => rfl
 | some av => cases av with
   | val agg os => cases agg <;> rfl
   | io A => rfl
   | box os => rfl
   | bp os => rfl
theorem xt : (os : List OV) → (j : Nat) → {A : fL} → nth (aV os) j = some (some A) → os[j]? = some (.own A)
 | [], _, _, h => by simp [aV] at h
 | o :: os, 0, A, h => by
   simp only [aV, nth, Option.some.injEq] at h
   cases o with
   | own B => injection h with h; subst h; rfl
   | _ => cases h
 | o :: os, j + 1, A, h => by
   have := xt os j (A := A) h; simpa using this
theorem CO {d g : Nat} : (os : List OV) → (j k : Nat) → (o : OV) → os[k]? = some o → ∃ x, aU d g (j + k) [o] = [x] ∧ (aU d g j os)[k]? = some x
 | [], _, _, _, h => by simp at h
 | o :: os, j, 0, o', h => by
   simp only [List.getElem?_cons_zero, Option.some.injEq] at h; subst h
   cases o <;> exact ⟨_, rfl, rfl⟩
 | o :: os, j, k + 1, o', h => by
   obtain ⟨x, h1, h2⟩ := CO (d := d) (g := g) os (j + 1) k o' (by simpa using h); rw [show j + 1 + k = j + (k + 1) by omega] at h1; refine ⟨x, h1, ?_⟩
   cases o <;> simpa [aU] using h2
theorem AL {d g : Nat} : (os : List OV) → (j : Nat) → (aU d g j os).length = os.length
 | [], _ => rfl
 | o :: os, j => by cases o <;> simp [aU, AL os (j + 1)]
theorem ba.LW {c : Cz} {w : World} {f : Nat → Lb} {os : List OV} {vs : List Value} (h : ba c w f 0 os vs) (lcs : Nat → Loc) (ho : ∀ k A u, os[k]? = some (.own A) → vs[k]? = some u → ∃ l, OwnAt c w l (lcs k) A u)
   (c2 : Cz) (fI : St) (d g : Nat) (fh : ∀ b, c.ok b → c2.ok b) (fO : ∀ k, c2.lc d k = lcs k) (x9 : ∀ k A, aQ fI d k g = some A → os[k]? = some (.own A)) (hg : g ≤ cM fI d) : ew c2 fI w (aU d g 0 os) vs := by
 obtain ⟨h1, h2⟩ := ba.LR os 0 vs h; refine ⟨by rw [AL, h1], fun k x v hx hv => ?_⟩; have bQ : k < os.length := by rw [← h1]; exact (List.getElem?_eq_some_iff.1 hv).1
 have GY : os[k]? = some os[k] := List.getElem?_eq_getElem bQ; obtain ⟨y, q1, q2⟩ := CO (d := d) (g := g) os 0 k _ GY; rw [q2] at hx
 cases hx
 have hL := h2 k _ v GY hv; rw [Nat.zero_add] at q1; generalize os[k] = o at *
 cases o with
 | own A =>
   simp only [aU, List.cons.injEq, and_true] at q1; subst q1; obtain ⟨l, hO⟩ := ho k A v GY hv; refine ⟨hO.1, hg, fun A' dP => ?_⟩; have := x9 k A' dP; rw [GY] at this
   cases this
   rw [fO]; exact hO.2.1
 | shr r xs =>
   simp only [aU, List.cons.injEq, and_true] at q1; subst q1; obtain ⟨v', l, e, h3, _⟩ := hL
   cases e
   exact bE.stays ⟨Nat.le_refl _, fun _ _ _ => rfl, fun b _ hb => fh b hb⟩ _ _ _ h3
 | ke r xs =>
   simp only [aU, List.cons.injEq, and_true] at q1; subst q1; obtain ⟨v', l, e, ⟨b, oo, e1, e2, e3, e4⟩, _⟩ := hL
   cases e
   exact ⟨b, oo, e1, e2, fh b e3, fun x hx => bU.stays ⟨Nat.le_refl _, fun _ _ _ => rfl, fun b _ hb => fh b hb⟩ _ _ _ _ rfl (e4 x hx)⟩
 | fn fg r xs =>
   simp only [aU, List.cons.injEq, and_true] at q1; subst q1; obtain ⟨v', l, e, h3, _⟩ := hL
   cases e
   exact h3.stays ⟨Nat.le_refl _, fun _ _ _ => rfl, fun b _ hb => fh b hb⟩
 | _ =>
   simp only [aU, List.cons.injEq, and_true] at q1; subst q1; obtain ⟨l, e, _⟩ := hL
   cases e
   rfl
theorem OH {c : Cz} {w : World} {k : Nat} {lio : Nat → Loc} {av : Option AV} {u : Value} (h : ∀ v, av = some v → p9 c w k lio v u) : ∃ lP lcs, LV c w k av u lio lP lcs := by
 cases av with
 | none => exact ⟨0, fun _ => .nil, fun j A hA => by simp [cn, Sl.blank] at hA, fun c2 fI _ _ _ _ => trivial, fun cs tp => by simp [cn, Sl.blank] at tp, fun A hA => (by cases hA), fun A hA => (by cases hA)⟩
 | some av =>
   have h := h av rfl
   cases av with
   | val agg os =>
     cases agg with
     | true =>
       obtain ⟨vs, rfl, hl⟩ := h; obtain ⟨lcs, g1, g2⟩ := ba.cells os 0 _ hl; simp only [Nat.zero_add] at g1 g2; refine ⟨0, lcs, fun j A hA => g1 j A hA, fun c2 fI fh _ fO hn => ⟨vs, rfl, ?_⟩, fun cs tp => by simp [cn] at tp, fun A hA => (by cases hA), fun A hA => (by cases hA)⟩; exact g2 c2 fI k 1 fh (fun j _ => by rw [fO]) (fun j A _ hA => oC hn hA) (by rw [oD hn]; exact Nat.le_refl _)
     | false =>
       have hl : ba c w (.bG k) 0 os [u] := h; obtain ⟨lcs, g1, g2⟩ := ba.cells os 0 _ hl; simp only [Nat.zero_add] at g1 g2; refine ⟨0, lcs, fun j A hA => g1 j A hA, fun c2 fI fh _ fO hn => ?_, fun cs tp => by simp [cn] at tp, fun A hA => (by cases hA), fun A hA => (by cases hA)⟩; have hR := g2 c2 fI k 1 fh (fun j _ => by rw [fO]) (fun j A _ hA => oC hn hA) (by rw [oD hn]; exact Nat.le_refl _); show ea c2 fI w (match aU k 1 0 os with | [c] => .one c | _ => .one .bad) u; have h1 := hR.1
       cases hc : aU k 1 0 os with
       | nil => trivial
       | cons x l => cases l with
         | nil => rw [hc] at hR; exact hR.2 0 x u rfl rfl
         | cons _ _ => trivial
   | io A =>
     have hO : OwnAt c w (.bG k 0) (lio 0) A u := h; refine ⟨0, lio, fun j A' dP => ?_, fun c2 fI fh _ fO hn => ?_, fun cs tp => by simp [cn] at tp, fun A hA => rfl, fun A hA => by cases hA⟩
     · cases j with
       | zero => simp [cn, nth] at dP; subst dP; exact ⟨u, hO⟩
       | succ j => simp [cn, nth] at dP
     · refine ⟨hO.1, by rw [oD hn]; exact Nat.le_refl _, fun A' dP => ?_⟩; have := oC hn dP; simp [cn, nth] at this; subst this; rw [fO]; exact hO.2.1
   | bp os =>
     obtain ⟨vs, rfl, hl, LH⟩ := h; have eK : ∀ j A u, os[j]? = some (.own A) → vs.toList[j]? = some u → OwnAt c w (.bG k j) (lio j) A u := fun j A u h1 h2 => LH j _ u h1 h2
     obtain ⟨n1, _⟩ := ba.LR os 0 _ hl; refine ⟨0, lio, fun j A' dP => ?_, fun c2 fI fh _ fO hn => ⟨vs, rfl, ?_⟩, fun cs tp => by simp [cn] at tp, fun A hA => (by cases hA), fun xi _ => rfl⟩
     · have hj := xt os j dP; have bQ : j < vs.toList.length := by rw [n1]; exact (List.getElem?_eq_some_iff.1 hj).1
       exact ⟨_, eK j A' _ hj (List.getElem?_eq_getElem bQ)⟩
     · exact ba.LW hl lio (fun j A u h1 h2 => ⟨_, eK j A u h1 h2⟩) c2 fI k 1 fh (fun j => by rw [fO]) (fun j A hA => xt os j (oC hn hA)) (by rw [oD hn]; exact Nat.le_refl _)
   | box os =>
     obtain ⟨lP, vs, ty, h1, h2, h3, hl⟩ := h; obtain ⟨lcs, g1, g2⟩ := ba.cells os 0 _ hl; simp only [Nat.zero_add] at g1 g2; refine ⟨lP, lcs, fun j A hA => g1 j A hA, fun c2 fI fh zE fO hn => ⟨by rw [h1]; rfl, by rw [CN hn]; exact Nat.le_refl _, fun cs _ => by rw [zE]; exact h1⟩, fun cs tp => ⟨h1, h2, vs, ty, h3, fun c2 fI fh fO hn => ?_⟩, fun A hA => (by cases hA), fun A hA => (by cases hA)⟩; simp only [cn, Option.some.injEq] at tp; subst tp; exact g2 c2 fI k 1 fh (fun j _ => by rw [fO]) (fun j A _ hA => oC hn hA) (by rw [oD hn]; exact Nat.le_refl _)
theorem Rel.IJ {w0 : World} {mu : Mu} {c : Cz} {a : Act} {w : World} {L : List (Option AV)} {lc : Nat → Nat → Loc} (hb : yQ w0 mu c w) (hd : a.defers = []) (hL : ym c w lc a 0 L) (hA : ∀ p ∈ mu.an, LS L lc a p) : ∃ c', Rel w0 mu c' (lQ 0 L) a w := by
 have OE : ∀ k, ∃ q : Nat × (Nat → Loc), LV c w k ((L[k]?).getD none) (a.eval (.tmp k)) (lc k) q.1 q.2 := by
   intro k; obtain ⟨lP, lcs, h⟩ := OH (c := c) (w := w) (k := k) (lio := lc k) (av := (L[k]?).getD none) (u := a.eval (.tmp k)) (fun v hv => by
     have := hL k v (by
       cases hq : L[k]? with
       | none => rw [hq] at hv; cases hv
       | some o => rw [hq] at hv; simp at hv; rw [hv])
     simpa using this)
   exact ⟨(lP, lcs), h⟩
 obtain ⟨q, hq⟩ := Classical.axiomOfChoice OE; have hn : ∀ k, nth (lQ 0 L) k = (L[k]?).map (cn k) := fun k => by have := CL L 0 k; simpa using this
 have Jj : ∀ k sl, nth (lQ 0 L) k = some sl → ∃ o, L[k]? = some o ∧ sl = cn k o ∧ nth (lQ 0 L) k = some (cn k ((L[k]?).getD none)) ∧ (L[k]?).getD none = o := by
   intro k sl h; rw [hn] at h
   cases ho : L[k]? with
   | none => rw [ho] at h; cases h
   | some o =>
     rw [ho] at h
     cases h
     refine ⟨o, rfl, rfl, ?_, rfl⟩; rw [hn, ho]; rfl
 let c' := c.dF LU (fun k => (q k).1) (fun k => (q k).2)
 have fh : ∀ b, c.ok b → c'.ok b := fun b hb => Cz.kh.2 hb
 refine ⟨c', fun t => ?_, fun s sl cs hs zE => ?_, fun s j sl A hs dP => ?_, fun b l hl => ?_, fun b bQ hl => hb.free b bQ (by simpa [c', Cz.dF] using hl), hb.kept, hb.old, hd, fun p hp => ?_⟩
 · cases hs : nth (lQ 0 L) t with
   | none =>
     have : bI (lQ 0 L) t = .one .bad := by unfold bI; rw [hs]
     rw [this]; trivial
   | some sl =>
     obtain ⟨o, h1, rfl, h3, h4⟩ := Jj t sl hs; have : bI (lQ 0 L) t = (cn t ((L[t]?).getD none)).v := by unfold bI; rw [h3]
     rw [this]; exact (hq t).reg c' (lQ 0 L) fh rfl rfl h3
 · obtain ⟨o, h1, rfl, h3, h4⟩ := Jj s sl hs; rw [← h4] at zE; obtain ⟨g1, g2, vs, ty, g3, g4⟩ := (hq s).box cs zE; refine ⟨?_, vs, ty, g3, g4 c' (lQ 0 L) fh rfl h3⟩; show (c.own (q s).1).map LU = _; rw [g2]; rfl
 · obtain ⟨o, h1, rfl, h3, h4⟩ := Jj s sl hs; rw [← h4] at dP; obtain ⟨v, hv⟩ := (hq s).arr j A dP; exact hv.arr rfl rfl
 · simp only [c', Cz.dF, Option.map_eq_some_iff] at hl; obtain ⟨k, hk, e⟩ := hl; obtain ⟨h1, h2⟩ := hb.owned b k hk; refine ⟨h1, h2.imp (fun e2 => ?_) id⟩; subst e2; rw [← e]; rfl
 · have hf := hA p hp
   cases p with
   | arr i j g W n l =>
     obtain ⟨rfl, hi, E0⟩ := hf; have hs : nth (lQ 0 L) i = some (cn i ((L[i]?).getD none)) := by rw [hn]; simp [List.getElem?_eq_getElem hi]
     refine ⟨by rw [oD hs]; exact Nat.le_refl _, fun A dP => ?_⟩; have h3 := oC hs dP
     cases ho : L[i]? with
     | none => rw [ho] at h3; simp [cn, Sl.blank] at h3
     | some o => cases o with
       | none => rw [ho] at h3; simp [cn, Sl.blank] at h3
       | some av =>
         rcases E0 av ho with ⟨A0, rfl, h5⟩ | ⟨os, rfl, h5⟩
         case inr =>
           rw [ho] at h3; obtain ⟨e1, e2, e3⟩ := h5 A (xt os j h3); refine ⟨e1, e2, ?_⟩; rw [← e3]; have := (hq i).bp os (by rw [ho]; rfl); show (q i).2 j = lc i j; rw [this]
         rw [ho] at h3
         cases j with
         | zero =>
           simp [cn, nth] at h3; subst h3; obtain ⟨e1, e2, e3⟩ := h5 rfl; exact ⟨e1, e2, ((hq i).io A0 (by rw [ho]; rfl)).trans e3⟩
         | succ j => simp [cn, nth] at h3
   | box i g lP =>
     obtain ⟨rfl, hi, E0⟩ := hf; have hs : nth (lQ 0 L) i = some (cn i ((L[i]?).getD none)) := by rw [hn]; simp [List.getElem?_eq_getElem hi]
     refine ⟨by rw [CN hs]; exact Nat.le_refl _, fun cs tp => ?_⟩; obtain ⟨sl, k1, k2, k3⟩ := fN tp; rw [hs] at k1; cases k1; obtain ⟨g1, _⟩ := (hq i).box cs k3; have ql : ∃ os, L[i]? = some (some (.box os)) := by
       cases ho : L[i]? with
       | none => rw [ho] at k3; simp [cn, Sl.blank] at k3
       | some o => cases o with
         | none => rw [ho] at k3; simp [cn, Sl.blank] at k3
         | some av => cases av with
           | val agg os => rw [ho] at k3; cases agg <;> simp [cn] at k3
           | io A => rw [ho] at k3; simp [cn] at k3
           | bp os => rw [ho] at k3; simp [cn] at k3
           | box os => exact ⟨os, rfl⟩
     obtain ⟨os, ql⟩ := ql; have := E0 os ql; rw [this] at g1; injection g1 with g1; injection g1 with g1; injection g1 with g1; exact g1.symm
end Go.TM
namespace Go.TM
open Go Go.RowKit
inductive Src where
 | tmp (t : Nat)
 | cell (t : Nat)
 | ptr (t : Nat)  -- Gu struct behind a pointer, adw is iT back
structure RP where
 src : Src
 agg : Bool
 ps : List OP
def bR : List RP → RT → RT
 | [], t => t
 | r :: rs, t => j2 r.ps (bR rs t)
def oX : List OP → RT → RT
 | [], t => t
 | .own r _ :: ps, t => .cons (.sl r) (oX ps t)
 | .int _ :: ps, t => oX ps t
 | .bool :: ps, t => oX ps t
 | .str :: ps, t => oX ps t
 | .shr _ :: ps, t => oX ps t
 | .ke _ :: ps, t => oX ps t
 | .fn _ _ :: ps, t => oX ps t
def bd : List AP → RT
 | [] => .nil
 | .val _ _ :: l => bd l
 | .io r _ :: l => .cons (.sl r) (bd l)
 | .box _ ps :: l => j2 ps (bd l)
 | .bp ps :: l => oX ps (bd l)
def RP.cells (st : St) (r : RP) : Option (List CV) :=
 match r.src with
 | .tmp t => match bI st t with
   | .agg cs => bif r.agg then some cs else none
   | .one c => bif r.agg then none else some [c]
   | .kX _ => none
 | .cell t => match bI st t with
   | .one (.ptr b g off) => bif Nat.beq off 0 then de st b g else none
   | _ => none
 | .ptr t => match bI st t with
   | .one (.ptr b g off) => bif Nat.beq off 0 then de st b g else none
   | _ => none
def RP.Ur (st : St) (r : RP) : List (Option Lb) :=
 match r.src with
 | .ptr t => (match bI st t with | .one (.ptr b _ _) => [some (.box b)] | _ => [])
 | _ => []
def AM (st : St) : (rs : List RP) → (t : RT) → ak t → Option (ak (bR rs t) × List (Option Lb) × List (Nat × Nat))
 | [], _, y => some (y, [], [])
 | r :: rs, t, y => (r.cells st).bind fun cs => (AM st rs t y).bind fun q => (jo st r.ps (bR rs t) cs q.1).map fun p => (p.1, r.Ur st ++ (p.2.1 ++ q.2.1), p.2.2 ++ q.2.2)
def j3 (st : St) (i : Nat) : (j : Nat) → (ps : List OP) → (t : RT) → ak t → Option (ak (oX ps t) × List Lb)
 | _, [], _, y => some (y, [])
 | j, .own r d :: ps, t, y => (j3 st i (j + 1) ps t y).bind fun q => (aQ st i j 1).bind fun A => bif A.own && A.md.is d then (bo r A.xs).map fun xs => ((xs, q.1), .sp i j :: q.2) else none
 | j, .int _ :: ps, t, y => j3 st i (j + 1) ps t y
 | j, .bool :: ps, t, y => j3 st i (j + 1) ps t y
 | j, .str :: ps, t, y => j3 st i (j + 1) ps t y
 | j, .shr _ :: ps, t, y => j3 st i (j + 1) ps t y
 | j, .ke _ :: ps, t, y => j3 st i (j + 1) ps t y
 | j, .fn _ _ :: ps, t, y => j3 st i (j + 1) ps t y
def qo (st : St) : (i : Nat) → (ps : List AP) → Option (ak (bd ps) × List Lb × List (Nat × Nat))
 | _, [] => some ((), [], [])
 | i, .val _ _ :: l => qo st (i + 1) l
 | i, .io r d :: l => (qo st (i + 1) l).bind fun q => (yY st i (.io r d) (bd l) (.one (.ref i 0 1 .full)) q.1).map fun p => (p.1, p.2.1 ++ q.2.1, p.2.2 ++ q.2.2)
 | i, .box _ ps :: l => (qo st (i + 1) l).bind fun q => (yY st i (.box true ps) (bd l) (.one (.ptr i 1 0)) q.1).map fun p => (p.1, p.2.1 ++ q.2.1, p.2.2 ++ q.2.2)
 | i, .bp ps :: l => (qo st (i + 1) l).bind fun q => (j3 st i 0 ps (bd l) q.1).map fun p => (p.1, p.2 ++ q.2.1, q.2.2)
def xu (rs : List RP) (ps : List AP) : Ex → St → Option (ak (bR rs (bd ps)))
 | .exit _, _ => none
 | _, st => (qo st 0 ps).bind fun x => (AM st rs (bd ps) x.1).bind fun q => bif rk (bu q.2.1 ++ x.2.1) && apart (bu q.2.1 ++ x.2.1) (q.2.2 ++ x.2.2) then some q.1 else none
def RP.rv (r : RP) (os : List OV) : RV :=
 match r.src with
 | .ptr _ => .ptr os
 | _ => match r.agg, os with
   | false, [o] => .one o
   | _, os => .agg os
def eX : (rs : List RP) → (t : RT) → ak (bR rs t) → List RV × ak t
 | [], _, x => ([], x)
 | r :: rs, t, x => (r.rv (cR r.ps (bR rs t) x).1 :: (eX rs t (cR r.ps (bR rs t) x).2).1, (eX rs t (cR r.ps (bR rs t) x).2).2)
def kL : (ps : List OP) → (t : RT) → ak (oX ps t) → List (Option fL) × ak t
 | [], _, x => ([], x)
 | .own r d :: ps, t, x => (some { r := r, own := true, xs := x.1, md := d } :: (kL ps t x.2).1, (kL ps t x.2).2)
 | .int _ :: ps, t, x => (none :: (kL ps t x).1, (kL ps t x).2)
 | .bool :: ps, t, x => (none :: (kL ps t x).1, (kL ps t x).2)
 | .str :: ps, t, x => (none :: (kL ps t x).1, (kL ps t x).2)
 | .shr _ :: ps, t, x => (none :: (kL ps t x).1, (kL ps t x).2)
 | .ke _ :: ps, t, x => (none :: (kL ps t x).1, (kL ps t x).2)
 | .fn _ _ :: ps, t, x => (none :: (kL ps t x).1, (kL ps t x).2)
def kD : (ps : List AP) → ak (bd ps) → List XV
 | [], _ => []
 | .val _ _ :: l, x => kD l x
 | .io r d :: l, x => .io { r := r, own := true, xs := x.1, md := d } :: kD l x.2
 | .box _ ps :: l, x => .box (cR ps (bd l) x).1 :: kD l (cR ps (bd l) x).2
 | .bp ps :: l, x => .bp (kL ps (bd l) x).1 :: kD l (kL ps (bd l) x).2
def j4 (ps : List AP) (rs : List RP) (t : ak (ar (ps.map some)) → Option (ak (bR rs (bd ps)))) : tg := fun cT =>
 match ey ps cT with
 | some x => some { r := bR rs (bd ps), o := t x, res := fun y => { outs := (eX rs (bd ps) y).1, exts := kD ps (eX rs (bd ps) y).2 } }
 | none => none
theorem hU {st : St} {i : Nat} : (ps : List OP) → (j : Nat) → (t : RT) → (y : ak t) → {x : ak (oX ps t)} → {u : List Lb} → j3 st i j ps t y = some (x, u) → (kL ps t x).2 = y ∧ (∀ l ∈ u, ∃ k, l = .sp i k) ∧
   ∀ (k : Nat) (r : RT) (d : Md), ps[k]? = some (.own r d) → ∃ A xs, aQ st i (j + k) 1 = some A ∧ A.own = true ∧ A.md = d ∧ bo r A.xs = some xs ∧ nth (kL ps t x).1 k = some (some { r := r, own := true, xs := xs, md := d }) ∧ .sp i (j + k) ∈ u
 | [], j, t, y, x, u, h => by
   injection h with h; injection h with e1 e2; subst e1 e2; exact ⟨rfl, by simp, fun k r d hk => by simp at hk⟩
 | .own r d :: ps, j, t, y, x, u, h => by
   unfold j3 at h; obtain ⟨q, hq, h⟩ := Option.bind_eq_some_iff.1 h; obtain ⟨A, hA, h⟩ := Option.bind_eq_some_iff.1 h; obtain ⟨ho, h⟩ := aD h; rw [Bool.and_eq_true] at ho; obtain ⟨xs, PS, h⟩ := Option.map_eq_some_iff.1 h; injection h with e1 e2; subst e1 e2; obtain ⟨z, us⟩ := q; obtain ⟨g1, g2, g3⟩ := hU ps (j + 1) t y hq; refine ⟨g1, fun l hl => ?_, fun k r' d' hk => ?_⟩
   · rcases List.mem_cons.1 hl with rfl | hl
     · exact ⟨j, rfl⟩
     · exact g2 l hl
   · cases k with
     | zero =>
       simp only [List.getElem?_cons_zero, Option.some.injEq, OP.own.injEq] at hk; obtain ⟨rfl, rfl⟩ := hk; exact ⟨A, xs, hA, ho.1, Md.kq.1 ho.2, PS, rfl, List.mem_cons_self⟩
     | succ k =>
       obtain ⟨A', UQ, k1, k2, kd, k3, k4, k5⟩ := g3 k r' d' (by simpa using hk); rw [show j + 1 + k = j + (k + 1) by omega] at k1 k5; exact ⟨A', UQ, k1, k2, kd, k3, k4, List.mem_cons_of_mem _ k5⟩
 | .int _ :: ps, j, t, y, x, u, h => iN (hU ps (j + 1) t y h) (by simp) (fun k => rfl)
 | .bool :: ps, j, t, y, x, u, h => iN (hU ps (j + 1) t y h) (by simp) (fun k => rfl)
 | .str :: ps, j, t, y, x, u, h => iN (hU ps (j + 1) t y h) (by simp) (fun k => rfl)
 | .shr _ :: ps, j, t, y, x, u, h => iN (hU ps (j + 1) t y h) (by simp) (fun k => rfl)
 | .ke _ :: ps, j, t, y, x, u, h => iN (hU ps (j + 1) t y h) (by simp) (fun k => rfl)
 | .fn _ _ :: ps, j, t, y, x, u, h => iN (hU ps (j + 1) t y h) (by simp) (fun k => rfl)
where
 iN {st : St} {i j : Nat} {p : OP} {ps : List OP} {D : Type} {y z : D} {L L' : List (Option fL)} {u : List Lb} (h : z = y ∧ (∀ l ∈ u, ∃ k, l = .sp i k) ∧ ∀ (k : Nat) (r : RT) (d : Md), ps[k]? = some (.own r d) → ∃ A xs, aQ st i (j + 1 + k) 1 = some A ∧ A.own = true ∧ A.md = d ∧ bo r A.xs = some xs ∧ nth L k = some (some { r := r, own := true, xs := xs, md := d }) ∧ .sp i (j + 1 + k) ∈ u)
     (hp : ∀ r d, p ≠ .own r d) (hL : ∀ k, nth L' (k + 1) = nth L k) : z = y ∧ (∀ l ∈ u, ∃ k, l = .sp i k) ∧ ∀ (k : Nat) (r : RT) (d : Md), (p :: ps)[k]? = some (.own r d) → ∃ A xs, aQ st i (j + k) 1 = some A ∧ A.own = true ∧ A.md = d ∧ bo r A.xs = some xs ∧ nth L' k = some (some { r := r, own := true, xs := xs, md := d }) ∧ .sp i (j + k) ∈ u := by
   obtain ⟨h1, h2, h3⟩ := h; refine ⟨h1, h2, fun k r d hk => ?_⟩
   cases k with
   | zero =>
     simp only [List.getElem?_cons_zero, Option.some.injEq] at hk; exact absurd hk (hp r d)
   | succ k =>
     obtain ⟨A', UQ, k1, k2, kd, k3, k4, k5⟩ := h3 k r d (by simpa using hk); rw [show j + 1 + k = j + (k + 1) by omega] at k1 k5; exact ⟨A', UQ, k1, k2, kd, k3, by rw [hL]; exact k4, k5⟩
theorem CP {st : St} : (ps : List OP) → (t : RT) → (cs : List CV) → (y : ak t) → {x : ak (j2 ps t)} → {u : List (Option Lb)} → {r : List (Nat × Nat)} → jo st ps t cs y = some (x, u, r) → u.length = ps.length ∧ cs.length = ps.length ∧ (cR ps t x).1.length = ps.length
 | [], t, [], y, x, u, r, h => by
   injection h with h; injection h with e1 e2; injection e2 with e2 e3; subst e1 e2 e3; exact ⟨rfl, rfl, rfl⟩
 | [], t, _ :: _, y, x, u, r, h => by simp [jo] at h
 | _ :: _, t, [], y, x, u, r, h => by simp [jo] at h
 | p :: ps, t, c :: cs, y, x, u, r, h => by
   unfold jo at h
   cases hc : eW st p.lN c with
   | none => simp [hc] at h
   | some q1 =>
     obtain ⟨o, u1, r1⟩ := q1
     cases hq : jo st ps t cs y with
     | none => simp [hc, hq] at h
     | some q2 =>
       obtain ⟨z, us, rs⟩ := q2; simp only [hc, hq] at h
       cases ho : oW p o with
       | none => simp [ho] at h
       | some a1 =>
         simp only [ho] at h; injection h with h; injection h with e1 e2; injection e2 with e2 e3; subst e1 e2 e3; obtain ⟨g1, g2, g3⟩ := CP ps t cs y hq; exact ⟨by simp [g1], by simp [g2], by simp [cR, g3]⟩
def LX (T : jh) (fr : Array Value) : ResultVar → RP → Prop
 | .tmp t, r => r.src = .tmp t ∨ r.src = .ptr t
 | .cell t ty, r => r.src = .cell t ∧ T.cells ty = some r.ps.length ∧ T.agg ty = r.agg
def AN (tm : Array Value) : ResultVar → Sem Value
 | .tmp t => pure (tm.getD t undef)
 | .cell a t => do loadVar t (← asAddr (tm.getD a undef))
theorem RP.LY {P : Program} {T : jh} (hT : fi P T) {w0 : World} {mu : Mu} {c : Cz} {st : St} {a : Act} {w : World} (h : Rel w0 mu c st a w) {r : RP} {rv : ResultVar} (hr : LX T a.tmps rv r) {cs : List CV} (hc : r.cells st = some cs) (hn : cs.length = r.ps.length) :
   ∃ vs v, ew c st w cs vs ∧ (AN a.tmps rv).run P w = .ok v w ∧ (((∀ t, r.src ≠ .ptr t) ∧ ((r.agg = true ∧ v = .agg vs.toArray) ∨ (r.agg = false ∧ (vs = [v])))) ∨
     (∃ t b ty us, r.src = .ptr t ∧ r.Ur st = [some (.box b)] ∧ v = .pointer (some ⟨c.bx b, 0, none⟩) ∧ c.own (c.bx b) = some (.box b) ∧ w.heap[c.bx b]? = some (.cells us ty (0, 0)) ∧ vs = us.toList)) := by
 unfold RP.cells at hc
 cases rv with
 | tmp t =>
   rcases (hr : r.src = .tmp t ∨ r.src = .ptr t) with hs | hs
   case inr =>
     rw [hs] at hc; have qI := h.eR t; simp only at hc
     cases hv : bI st t with
     | kX _ => rw [hv] at hc; cases hc
     | agg l => rw [hv] at hc; cases hc
     | one x =>
       cases x with
       | ptr b g off =>
         rw [hv] at hc qI; obtain ⟨ho, hb⟩ := aD hc; have ho := Nat.eq_of_beq_eq_true ho; subst ho; obtain ⟨sl, k1, k2, k3⟩ := fN hb; obtain ⟨q1, vs, ty', q2, q3⟩ := h.boxes b sl cs k1 k3; have e : a.tmps.getD t undef = .pointer (some ⟨c.bx b, 0, none⟩) := qI.2.2 cs hb; refine ⟨vs.toList, a.tmps.getD t undef, q3, rfl, .inr ⟨t, b, ty', vs, hs, ?_, e, q1, q2, rfl⟩⟩; unfold RP.Ur; rw [hs]; simp only [hv]
       | _ => rw [hv] at hc; cases hc
   rw [hs] at hc; have qI := h.eR t; simp only at hc
   cases hv : bI st t with
   | kX _ => rw [hv] at hc; cases hc
   | agg l =>
     rw [hv] at hc qI; obtain ⟨IK, hc1⟩ := aD hc
     cases hc1
     obtain ⟨vs, e, hl⟩ := qI; exact ⟨vs.toList, a.eval (.tmp t), hl, rfl, .inl ⟨fun t' e' => (by rw [hs] at e'; cases e'), .inl ⟨IK, by rw [e]⟩⟩⟩
   | one x =>
     rw [hv] at hc qI; simp only at hc
     cases IK : r.agg with
     | true => rw [IK] at hc; cases hc
     | false =>
       rw [IK] at hc
       cases hc
       refine ⟨[a.eval (.tmp t)], a.eval (.tmp t), ⟨rfl, fun i y z hy hz => ?_⟩, rfl, .inl ⟨fun t' e' => (by rw [hs] at e'; cases e'), .inr ⟨rfl, rfl⟩⟩⟩
       cases i with
       | zero => simp at hy hz; subst hy hz; exact qI
       | succ i => simp at hy
 | cell t ty =>
   obtain ⟨hs, h1, h2⟩ := hr; rw [hs] at hc; have qI := h.eR t; simp only at hc
   cases hv : bI st t with
   | kX _ => rw [hv] at hc; cases hc
   | agg l => rw [hv] at hc; cases hc
   | one x =>
     cases x with
     | ptr b g off =>
       rw [hv] at hc qI; obtain ⟨ho, hb⟩ := aD hc; have ho := Nat.eq_of_beq_eq_true ho; subst ho; obtain ⟨sl, k1, k2, k3⟩ := fN hb; obtain ⟨q1, vs, ty', q2, q3⟩ := h.boxes b sl cs k1 k3; have e : a.tmps.getD t undef = .pointer (some ⟨c.bx b, 0, none⟩) := qI.2.2 cs hb; have Rp : w.rangeAt (c.bx b) 0 vs.toList := by
         have := yH (off := 0) q2 vs.toList.length
         rwa [List.drop_zero, List.take_length] at this
       have hlen : vs.toList.length = r.ps.length := by rw [← q3.1, hn]
       have mA := pZ (P := P) hT h1 w (c.bx b) 0 vs.toList Rp hlen; refine ⟨vs.toList, valOf (T.agg ty) vs.toList, q3, ?_, .inl ⟨fun t' e' => (by rw [hs] at e'; cases e'), ?_⟩⟩
       · simp [AN, e, asAddr, Sem.run_bind, mA]
       · rw [h2]
         cases IK : r.agg with
         | true => exact .inl ⟨rfl, by simp [valOf]⟩
         | false =>
           obtain ⟨_, _, _, BV⟩ := hT.agg ty _ h1; have h3 := BV (by rw [h2, IK]); refine .inr ⟨rfl, ?_⟩; have : vs.toList.length = 1 := by rw [hlen, h3]
           cases w9 : vs.toList with
           | nil => rw [w9] at this; cases this
           | cons x l => cases l with
             | nil => rfl
             | cons _ _ => rw [w9] at this; simp at this
     | _ => rw [hv] at hc; cases hc
end Go.TM
namespace Go.TM
open Go Go.RowKit
def vL (T : jh) (tm : Array Value) : List ResultVar → List RP → Prop
 | [], [] => True
 | v :: vs, r :: rs => LX T tm v r ∧ vL T tm vs rs
 | _, _ => False
theorem CQ {P : Program} {T : jh} (hT : fi P T) {w0 : World} {mu : Mu} {c : Cz} {st : St} {a : Act} {w : World} (h : Rel w0 mu c st a w) : (VF : List ResultVar) → (rs : List RP) → vL T a.tmps VF rs → (t : RT) → (y : ak t) → {x : ak (bR rs t)} → {u : List (Option Lb)} → {r : List (Nat × Nat)} → AM st rs t y = some (x, u, r) →
   (eX rs t x).2 = y ∧ (eX rs t x).1.length = rs.length ∧ (∀ l ∈ bu u, l.real = true) ∧ ∃ vals : List Value, (VF.mapM (AN a.tmps)).run P w = .ok vals w ∧ vals.length = VF.length ∧
     ∀ (ρ : Lb → Option Lb) (j : Nat), (∀ k l, nth u k = some (some l) → ρ l = some (.gp (j + k))) → (∀ p ∈ r, ρ (.sp p.1 p.2) = none) → jN (c.map ρ) w j (eX rs t x).1 vals
 | [], [], _, t, y, x, u, r, he => by
   injection he with he; injection he with e1 e2; injection e2 with e2 e3; subst e1 e2 e3; exact ⟨rfl, rfl, by simp [bu], [], rfl, rfl, fun _ _ _ _ => rfl⟩
 | [], _ :: _, hf, _, _, _, _, _, _ => hf.elim
 | _ :: _, [], hf, _, _, _, _, _, _ => hf.elim
 | rv :: VF, rr :: rs, hf, t, y, x, u, r, he => by
   unfold AM at he; obtain ⟨cs, hc, he⟩ := Option.bind_eq_some_iff.1 he; obtain ⟨q, hq, he⟩ := Option.bind_eq_some_iff.1 he; obtain ⟨p, hp, he⟩ := Option.map_eq_some_iff.1 he; obtain ⟨x2, u2, r2⟩ := q; obtain ⟨x1, u1, r1⟩ := p; injection he with e1 e2; injection e2 with e2 e3; subst e1 e2 e3; obtain ⟨l1, l2, l3⟩ := CP rr.ps _ cs _ hp; obtain ⟨vs, v, g1, g2, g3⟩ := RP.LY hT h hf.1 hc l2; obtain ⟨k1, k2, k3, vals, k4, k5, k6⟩ := CQ hT h VF rs hf.2 t y hq; have h0 := fun (ρ : Lb → Option Lb) (j : Nat) => tP h (ρ := ρ) (f := .gp) rr.ps (bR rs t) cs x2 vs j g1 hp
   have e0 := (h0 (fun _ => none) 0).1; refine ⟨?_, ?_, fun l hl => ?_, v :: vals, ?_, by simp [k5], fun ρ j hu hr => ?_⟩
   · show (eX rs t (cR rr.ps (bR rs t) x1).2).2 = y; rw [e0]; exact k1
   · show (eX rs t (cR rr.ps (bR rs t) x1).2).1.length + 1 = _; rw [e0, k2]; rfl
   · rw [fE] at hl; rcases List.mem_append.1 hl with hl | hl
     · unfold RP.Ur at hl
       split at hl
       · split at hl
         · simp only [List.mem_singleton, Option.some.injEq] at hl; subst hl; rfl
         · cases hl
       · cases hl
     · rcases List.mem_append.1 hl with hl | hl
       · exact (h0 (fun _ => none) 0).2.1 l (fE.2 hl)
       · exact k3 l (fE.2 hl)
   · rw [List.mapM_cons]; simp [Sem.run_bind, g2, k4]
   · have e : (eX (rr :: rs) t x1).1 = rr.rv (cR rr.ps (bR rs t) x1).1 :: (eX rs t x2).1 := by
       show rr.rv (cR rr.ps (bR rs t) x1).1 :: (eX rs t (cR rr.ps (bR rs t) x1).2).1 = _; rw [e0]
     show jN (c.map ρ) w j (eX (rr :: rs) t x1).1 (v :: vals); rw [e]; rcases g3 with ⟨hnp, g3⟩ | ⟨tt, b, ty, us, Rq, Rr, hv, eK, LA, w9⟩
     · have Rr : rr.Ur st = [] := by
         unfold RP.Ur
         split
         · rename_i t' e'; exact absurd e' (hnp t')
         · rfl
       rw [Rr, List.nil_append] at hu; have hL := (h0 ρ j).2.2 (fun k l hk => hu k l (by
         rw [kx, if_pos (Dq hk)]; exact hk)) (fun p hp => hr p (List.mem_append_left _ hp))
       have eC := k6 ρ (j + rr.ps.length) (fun k l hk => by
         have := hu (rr.ps.length + k) l (by rw [kx, l1, if_neg (by omega), Nat.add_sub_cancel_left]; exact hk); rw [Nat.add_assoc]; exact this) (fun p hp => hr p (List.mem_append_right _ hp))
       have hrv : ∀ os, rr.rv os = (match rr.agg, os with | false, [o] => RV.one o | _, os => RV.agg os) := by
         intro os; unfold RP.rv
         split
         · rename_i t' e'; exact absurd e' (hnp t')
         · rfl
       rcases g3 with ⟨ha, rfl⟩ | ⟨ha, rfl⟩
       · have er : rr.rv (cR rr.ps (bR rs t) x1).1 = .agg (cR rr.ps (bR rs t) x1).1 := by rw [hrv, ha]
         rw [er]; exact ⟨vs.toArray, vals, rfl, by simpa using hL, by rw [l3]; exact eC⟩
       · have hlen : cs.length = 1 := g1.1; have : (cR rr.ps (bR rs t) x1).1.length = 1 := by rw [l3, ← l2, hlen]
         cases ho : (cR rr.ps (bR rs t) x1).1 with
         | nil => rw [ho] at this; cases this
         | cons o l => cases l with
           | cons _ _ => rw [ho] at this; simp at this
           | nil =>
             have er : rr.rv [o] = .one o := by rw [hrv, ha]
             rw [er]; rw [ho] at hL; refine ⟨v, vals, rfl, hL, ?_⟩; rw [← l2, hlen] at eC; exact eC
     · rw [Rr] at hu; have hb := hu 0 (.box b) rfl; have hL := (h0 ρ (j + 1)).2.2 (fun k l hk => by
         have := hu (k + 1) l (by
           show nth (u1 ++ u2) k = _; rw [kx, if_pos (Dq hk)]; exact hk)
         rwa [show j + (k + 1) = j + 1 + k by omega] at this) (fun p hp => hr p (List.mem_append_left _ hp))
       have eC := k6 ρ (j + (rr.ps.length + 1)) (fun k l hk => by
         have := hu (rr.ps.length + k + 1) l (by
           show nth (u1 ++ u2) (rr.ps.length + k) = _; rw [kx, l1, if_neg (by omega), Nat.add_sub_cancel_left]; exact hk)
         rwa [show j + (rr.ps.length + k + 1) = j + (rr.ps.length + 1) + k by omega] at this) (fun p hp => hr p (List.mem_append_right _ hp))
       have er : rr.rv (cR rr.ps (bR rs t) x1).1 = .ptr (cR rr.ps (bR rs t) x1).1 := by unfold RP.rv; rw [Rq]
       rw [er]; subst w9; refine ⟨v, vals, rfl, ⟨c.bx b, us, ty, hv, ?_, LA, hL⟩, by rw [l3]; exact eC⟩; rw [Nat.add_zero] at hb; exact (Cz.iZ eK).trans hb
def DF (mu : Mu) (lc : Nat → Nat → Loc) (i : Nat) (ps : List AP) (cT : List AV) (vs : List Value) : Prop :=
 ∀ (k : Nat) (p : AP) (av : AV) (v : Value), ps[k]? = some p → cT[k]? = some av → vs[k]? = some v → match p, av with
   | .io _ _, .io A => v.oneCell' = true ∧ gP (lc (i + k) 0) A.r.width 0 A.xs.length v ∧ Jc.arr (i + k) 0 1 A.r.width A.xs.length (lc (i + k) 0) ∈ mu.an
   | .box _ _, .box _ => ∃ lP, v = .pointer (some ⟨lP, 0, none⟩) ∧ Jc.box (i + k) 1 lP ∈ mu.an
   | .val _ _, .val _ _ => True
   | .bp qs, .bp os => ∃ us, v = .agg us ∧ ∀ j A, os[j]? = some (.own A) → (∃ r d, qs[j]? = some (.own r d)) ∧ ∃ u, us.toList[j]? = some u ∧ u.oneCell' = true ∧ gP (lc (i + k) j) A.r.width 0 A.xs.length u ∧ Jc.arr (i + k) j 1 A.r.width A.xs.length (lc (i + k) j) ∈ mu.an
   | _, _ => False
theorem qL {w0 : World} {mu : Mu} {c : Cz} {st : St} {a : Act} {w : World} (h : Rel w0 mu c st a w) {lc : Nat → Nat → Loc} : (ps : List AP) → (i : Nat) → (cT : List AV) → (vs : List Value) → ps.length = cT.length → ps.length = vs.length → DF mu lc i ps cT vs → {x : ak (bd ps)} → {u : List Lb} → {r : List (Nat × Nat)} → qo st i ps = some (x, u, r) →
   (∀ l ∈ u, l.real = true) ∧ ∃ tb : List (Lb × Lb), tb.map (·.1) = u ∧ (∀ p ∈ tb, p.2.iT = true) ∧ ∀ ρ : Lb → Option Lb, (∀ p ∈ tb, ρ p.1 = some p.2) → (∀ p ∈ r, ρ (.sp p.1 p.2) = none) → gd (c.map ρ) w lc i cT vs (kD ps x)
 | [], i, cT, vs, h1, h2, _, x, u, r, he => by
   injection he with he; injection he with e1 e2; injection e2 with e2 e3; subst e2 e3; have : cT = [] := by simpa using h1.symm
   subst this; exact ⟨by simp, [], rfl, by simp, fun _ _ _ => rfl⟩
 | p :: ps, i, [], vs, h1, _, _, _, _, _, _ => by simp at h1
 | p :: ps, i, _ :: _, [], _, h2, _, _, _, _, _ => by simp at h2
 | p :: ps, i, av :: cT, v :: vs, h1, h2, hl, x, u, r, he => by
   have vk : DF mu lc (i + 1) ps cT vs := fun k p' IH v' e1 e2 e3 => by
     have := hl (k + 1) p' IH v' (by simpa using e1) (by simpa using e2) (by simpa using e3)
     rwa [show i + (k + 1) = i + 1 + k by omega] at this
   have Q0 : ps.length = cT.length := by simpa using h1
   have Yg : ps.length = vs.length := by simpa using h2
   have h0 := hl 0 p av v rfl rfl rfl
   cases p with
   | val agg qs =>
     cases av with
     | val OG os =>
       obtain ⟨g1, tb, g2, g3, g4⟩ := qL h ps (i + 1) cT vs Q0 Yg vk he; exact ⟨g1, tb, g2, g3, fun ρ hp hr => g4 ρ hp hr⟩
     | io _ => exact h0.elim
     | box _ => exact h0.elim
     | bp _ => exact h0.elim
   | io rr dd =>
     cases av with
     | val _ _ => exact h0.elim
     | box _ => exact h0.elim
     | bp _ => exact h0.elim
     | io A =>
       obtain ⟨q1, q2, q3⟩ := h0; simp only [Nat.add_zero] at q2 q3; unfold qo at he; obtain ⟨q, hq, he⟩ := Option.bind_eq_some_iff.1 he; obtain ⟨p, hp, he⟩ := Option.map_eq_some_iff.1 he; obtain ⟨x2, u2, r2⟩ := q; obtain ⟨x1, u1, r1⟩ := p; injection he with e1 e2; injection e2 with e2 e3; subst e1 e2 e3; obtain ⟨g1, tb, g2, g3, g4⟩ := qL h ps (i + 1) cT vs Q0 Yg vk hq; have OI := h.dO _ q3; have hV : ea c st w (.one (.ref i 0 1 .full)) v := ⟨q1, OI.1, fun A' dP => by
         obtain ⟨e1, e2, e3⟩ := OI.2 A' dP; rw [e1, e3]; show gP (lc i 0) A.r.width 0 A'.xs.length v; rw [e2]; exact q2⟩
       obtain ⟨a1, a2, ta, a3, a4, a5⟩ := xr h i hV hp; obtain ⟨A', dP, VG⟩ : ∃ A', aQ st i 0 1 = some A' ∧ ∃ xs, bo rr A'.xs = some xs ∧ x1.1 = xs := by
         have hp : (bif Nat.beq i i && (Nat.beq 0 0 && Nat.beq 1 1) then ((aQ st i 0 1).bind fun A => bif A.own && A.md.is dd then (bo rr A.xs).map fun xs => ((xs, x2), [Lb.sp i 0], ([] : List (Nat × Nat))) else none) else none) = some (x1, u1, r1) := hp; obtain ⟨_, hp1⟩ := aD hp; obtain ⟨A', dP, YX⟩ := Option.bind_eq_some_iff.1 hp1; obtain ⟨_, hp3⟩ := aD YX; obtain ⟨xs, PS, e⟩ := Option.map_eq_some_iff.1 hp3; injection e with e _; exact ⟨A', dP, xs, PS, by rw [← e]⟩
       obtain ⟨xs, PS, ex⟩ := VG; obtain ⟨e1, e2, e3⟩ := OI.2 A' dP; refine ⟨fun l hl => ?_, ta ++ tb, by simp [a3, g2], fun p hp => ?_, fun ρ hp hr => ?_⟩
       · rcases List.mem_append.1 hl with hl | hl
         · exact a2 l hl
         · exact g1 l hl
       · rcases List.mem_append.1 hp with hp | hp
         · exact a4 p hp
         · exact g3 p hp
       · have Us := a5 ρ (fun p jn => hp p (List.mem_append_left _ jn)) (fun p jn => hr p (List.mem_append_left _ jn)); have eC := g4 ρ (fun p jn => hp p (List.mem_append_right _ jn)) (fun p jn => hr p (List.mem_append_right _ jn)); have Us : OwnAt (c.map ρ) w (.bG i 0) (c.lc i 0) { r := rr, own := true, xs := x1.1, md := dd } v := Us; rw [e3] at Us; obtain ⟨er, KT⟩ := aX PS; refine ⟨{ r := rr, own := true, xs := x1.1, md := dd }, kD ps x1.2, rfl, ?_, ?_, Us, ?_⟩
         · show rr.width = A.r.width; rw [← er]; exact e1
         · show List.length (x1.1 : List (ak rr)) = A.xs.length; rw [ex, KT, ← e2]
           cases er
           rfl
         · have : x1.2 = x2 := a1; rw [this]; exact eC
   | bp qs =>
     cases av with
     | val _ _ => exact h0.elim
     | io _ => exact h0.elim
     | box _ => exact h0.elim
     | bp os =>
       obtain ⟨us, rfl, q1⟩ := h0; simp only [Nat.add_zero] at q1; unfold qo at he; obtain ⟨q, hq, he⟩ := Option.bind_eq_some_iff.1 he; obtain ⟨p, hp, he⟩ := Option.map_eq_some_iff.1 he; obtain ⟨x2, u2, r2⟩ := q; obtain ⟨x1, u1⟩ := p; injection he with e1 e2; injection e2 with e2 e3; subst e1 e2 e3; obtain ⟨g1, tb, g2, g3, g4⟩ := qL h ps (i + 1) cT vs Q0 Yg vk hq; obtain ⟨a1, a2, a3⟩ := hU qs 0 (bd ps) x2 hp
       let f : Lb → Lb × Lb := fun l => (l, match l with | .sp x y => .bG x y | l => l)
       refine ⟨fun l hl => ?_, u1.map f ++ tb, ?_, fun p hp => ?_, fun ρ hp hr => ?_⟩
       · rcases List.mem_append.1 hl with hl | hl
         · obtain ⟨k, rfl⟩ := a2 l hl; rfl
         · exact g1 l hl
       · rw [List.map_append, List.map_map, g2]
         congr 1
         exact List.map_id u1
       · rcases List.mem_append.1 hp with hp | hp
         · obtain ⟨l, hl, rfl⟩ := List.mem_map.1 hp; obtain ⟨k, rfl⟩ := a2 l hl; rfl
         · exact g3 p hp
       · have eC := g4 ρ (fun p jn => hp p (List.mem_append_right _ jn)) hr; refine ⟨(kL qs (bd ps) x1).1, kD ps (kL qs (bd ps) x1).2, rfl, ⟨us, rfl, fun j A hj => ?_⟩, by rw [a1]; exact eC⟩; obtain ⟨⟨r, dd, Zp⟩, u, b1, b2, b3, b4⟩ := q1 j A hj; obtain ⟨A', xs, c1, c2, cd, c3, c4, c5⟩ := a3 j r dd Zp; rw [Nat.zero_add] at c1 c5; obtain ⟨e1, e2, e3⟩ := (h.dO _ b4).2 A' c1; obtain ⟨er, KT⟩ := aX c3; have ha := uK h c1; have hρ : ρ (.sp i j) = some (.bG i j) := hp (.sp i j, .bG i j) (List.mem_append_left _ (List.mem_map.2 ⟨_, c5, rfl⟩)); have hw : r.width = A.r.width := by rw [← er]; exact e1
         have hn : xs.length = A.xs.length := by
           rw [← e2, KT]
           cases er
           rfl
         refine ⟨_, u, c4, b1, hw, hn, b2, ?_, rfl, ?_⟩
         · show gP (lc i j) r.width 0 xs.length u; rw [hw, hn]; exact b3
         · show match lc i j with
             | .nil => xs = []
             | .at b off cap => _
           obtain ⟨rA, afu, xsA, mdA⟩ := A'; simp only at er c2 cd; subst er c2 cd; have KT : xs = xsA := KT; subst KT; unfold bF at ha; have e3 : c.lc i j = lc i j := e3; rw [e3] at ha
           cases fO : lc i j with
           | nil => rw [fO] at ha; exact ha
           | «at» b off cap =>
             rw [fO] at ha; obtain ⟨k0, k2, k3, k4⟩ := ha; exact ⟨(Cz.iZ k0).trans hρ, k2, k3, k4.map hρ⟩
   | box Dk qs =>
     cases av with
     | val _ _ => exact h0.elim
     | io _ => exact h0.elim
     | bp _ => exact h0.elim
     | box os =>
       obtain ⟨lP, q1, q2⟩ := h0; simp only [Nat.add_zero] at q2; unfold qo at he; obtain ⟨q, hq, he⟩ := Option.bind_eq_some_iff.1 he; obtain ⟨p, hp, he⟩ := Option.map_eq_some_iff.1 he; obtain ⟨x2, u2, r2⟩ := q; obtain ⟨x1, u1, r1⟩ := p; injection he with e1 e2; injection e2 with e2 e3; subst e1 e2 e3; obtain ⟨g1, tb, g2, g3, g4⟩ := qL h ps (i + 1) cT vs Q0 Yg vk hq; have OI := h.dO _ q2; have hV : ea c st w (.one (.ptr i 1 0)) v := ⟨by rw [q1]; rfl, OI.1, fun cs tp => by rw [OI.2 cs tp, q1]⟩; obtain ⟨a1, a2, ta, a3, a4, a5⟩ := xr h i hV hp; refine ⟨fun l hl => ?_, ta ++ tb, by simp [a3, g2], fun p hp => ?_, fun ρ hp hr => ?_⟩
       · rcases List.mem_append.1 hl with hl | hl
         · exact a2 l hl
         · exact g1 l hl
       · rcases List.mem_append.1 hp with hp | hp
         · exact a4 p hp
         · exact g3 p hp
       · have Us := a5 ρ (fun p jn => hp p (List.mem_append_left _ jn)) (fun p jn => hr p (List.mem_append_left _ jn)); have eC := g4 ρ (fun p jn => hp p (List.mem_append_right _ jn)) (fun p jn => hr p (List.mem_append_right _ jn)); refine ⟨(cR qs (bd ps) x1).1, kD ps (cR qs (bd ps) x1).2, rfl, Us, ?_⟩; have : (cR qs (bd ps) x1).2 = x2 := a1; rw [this]; exact eC
end Go.TM
namespace Go.TM
open Go Go.RowKit
def start (n : Nat) (ps : List AP) (x : ak (ar (ps.map some))) : St := lQ 0 (bM (ps.map some) x ++ List.replicate (n + 1 - ps.length) none)
theorem nZ : (l : List (Option AP)) → (x : ak (ar l)) → (bM l x).length = l.length
 | [], _ => rfl
 | none :: l, x => by
   show (bM l x).length + 1 = l.length + 1; rw [nZ l x]
 | some p :: l, x => by
   show (bM l (p.av (ar l) x).2).length + 1 = l.length + 1; rw [nZ l _]
theorem uN {c : Cz} {w : World} {lc : Nat → Nat → Loc} : (ps : List AP) → (i : Nat) → (cT : List AV) → (vs : List Value) → {x : ak (ar (ps.map some))} → ey ps cT = some x → vI c w lc i cT vs →
   ps.length = cT.length ∧ ps.length = vs.length ∧ ∀ k av, (bM (ps.map some) x)[k]? = some (some av) → ∃ v, vs[k]? = some v ∧ p9 c w (i + k) (lc (i + k)) av v
 | [], i, [], vs, x, hx, h => by
   have : vs = [] := h; subst this; exact ⟨rfl, rfl, fun k av hk => by
     have hk : ([] : List (Option AV))[k]? = some (some av) := hk; simp at hk⟩
 | [], _, _ :: _, _, _, hx, _ => by simp [ey] at hx
 | _ :: _, _, [], _, _, hx, _ => by simp [ey] at hx
 | p :: ps, i, av :: cT, vs, x, hx, h => by
   obtain ⟨v, l, rfl, h1, h2⟩ := h; unfold ey at hx
   cases hy : ey ps cT with
   | none => simp [hy] at hx
   | some y =>
     simp only [hy] at hx; obtain ⟨g1, g2, g3⟩ := uN ps (i + 1) cT l hy h2; obtain ⟨q1, q2⟩ := Fe (c := c) (w := w) (i := i) (lc := lc i) hx; refine ⟨by simp [g1], by simp [g2], fun k IH hk => ?_⟩
     cases k with
     | zero =>
       have hk : some (some (p.av (ar (ps.map some)) x).1) = some (some IH) := hk; simp only [Option.some.injEq] at hk; subst hk; exact ⟨v, rfl, q2 v h1⟩
     | succ k =>
       have hk : (bM (ps.map some) (p.av (ar (ps.map some)) x).2)[k]? = some (some IH) := hk; rw [q1] at hk; obtain ⟨v', h3, h4⟩ := g3 k IH hk; exact ⟨v', by simpa using h3, by rw [show i + (k + 1) = i + 1 + k by omega]; exact h4⟩
def gQ (lc : Nat → Loc) (i : Nat) : (j : Nat) → List OV → List Jc
 | _, [] => []
 | j, .own A :: os => .arr i j 1 A.r.width A.xs.length (lc j) :: gQ lc i (j + 1) os
 | j, .int _ _ :: os => gQ lc i (j + 1) os
 | j, .bool _ :: os => gQ lc i (j + 1) os
 | j, .str _ :: os => gQ lc i (j + 1) os
 | j, .shr _ _ :: os => gQ lc i (j + 1) os
 | j, .ke _ _ :: os => gQ lc i (j + 1) os
 | j, .fn _ _ _ :: os => gQ lc i (j + 1) os
 | j, .dq :: os => gQ lc i (j + 1) os
theorem xv {lc : Nat → Loc} {i : Nat} : (os : List OV) → (j : Nat) → ∀ p ∈ gQ lc i j os, ∃ k A, os[k]? = some (.own A) ∧ p = .arr i (j + k) 1 A.r.width A.xs.length (lc (j + k))
 | [], j, p, h => by simp [gQ] at h
 | o :: os, j, p, h => by
   have rest : p ∈ gQ lc i (j + 1) os → ∃ k A, (o :: os)[k]? = some (.own A) ∧ p = .arr i (j + k) 1 A.r.width A.xs.length (lc (j + k)) := by
     intro h; obtain ⟨k, A, h1, h2⟩ := xv os (j + 1) p h; refine ⟨k + 1, A, by simpa using h1, ?_⟩; rw [h2, show j + 1 + k = j + (k + 1) by omega]
   cases o with
   | own A =>
     rcases List.mem_cons.1 h with h | h
     · exact ⟨0, A, rfl, h⟩
     · exact rest h
   | _ => exact rest h
theorem yZ {lc : Nat → Loc} {i : Nat} : (os : List OV) → (j : Nat) → ∀ (k : Nat) (A : fL), os[k]? = some (.own A) → Jc.arr i (j + k) 1 A.r.width A.xs.length (lc (j + k)) ∈ gQ lc i j os
 | [], j, k, A, h => by simp at h
 | o :: os, j, 0, A, h => by
   simp only [List.getElem?_cons_zero, Option.some.injEq] at h; subst h; exact List.mem_cons_self
 | o :: os, j, k + 1, A, h => by
   have := yZ (lc := lc) (i := i) os (j + 1) k A (by simpa using h); rw [show j + 1 + k = j + (k + 1) by omega] at this
   cases o with
   | own A => exact List.mem_cons_of_mem _ this
   | _ => exact this
def AO (lc : Nat → Nat → Loc) : (i : Nat) → List AV → List Value → List Jc
 | _, [], _ => []
 | _, _ :: _, [] => []
 | i, .val _ _ :: as, _ :: vs => AO lc (i + 1) as vs
 | i, .io A :: as, _ :: vs => .arr i 0 1 A.r.width A.xs.length (lc i 0) :: AO lc (i + 1) as vs
 | i, .bp os :: as, _ :: vs => gQ (lc i) i 0 os ++ AO lc (i + 1) as vs
 | i, .box _ :: as, v :: vs => .box i 1 (match v with | .pointer (some ad) => ad.block | _ => 0) :: AO lc (i + 1) as vs
theorem qM {lc : Nat → Nat → Loc} : (i : Nat) → (as : List AV) → (vs : List Value) → ∀ p ∈ AO lc i as vs, ∃ k av v, as[k]? = some av ∧ vs[k]? = some v ∧ ((∃ A, av = .io A ∧ p = .arr (i + k) 0 1 A.r.width A.xs.length (lc (i + k) 0)) ∨ (∃ os, av = .box os ∧ p = .box (i + k) 1 (match v with | .pointer (some ad) => ad.block | _ => 0)) ∨ ∃ os j A, av = .bp os ∧ os[j]? = some (.own A) ∧ p = .arr (i + k) j 1 A.r.width A.xs.length (lc (i + k) j))
 | _, [], _, p, h => by simp [AO] at h
 | _, _ :: _, [], p, h => by simp [AO] at h
 | i, .val _ _ :: as, _ :: vs, p, h => by
   obtain ⟨k, av, v, h1, h2, h3⟩ := qM (i + 1) as vs p h; exact ⟨k + 1, av, v, by simpa using h1, by simpa using h2, by rw [show i + (k + 1) = i + 1 + k by omega]; exact h3⟩
 | i, .io A :: as, v0 :: vs, p, h => by
   rcases List.mem_cons.1 h with h | h
   · exact ⟨0, .io A, v0, rfl, rfl, .inl ⟨A, rfl, h⟩⟩
   · obtain ⟨k, av, v, h1, h2, h3⟩ := qM (i + 1) as vs p h; exact ⟨k + 1, av, v, by simpa using h1, by simpa using h2, by rw [show i + (k + 1) = i + 1 + k by omega]; exact h3⟩
 | i, .box os :: as, v0 :: vs, p, h => by
   rcases List.mem_cons.1 h with h | h
   · exact ⟨0, .box os, v0, rfl, rfl, .inr (.inl ⟨os, rfl, h⟩)⟩
   · obtain ⟨k, av, v, h1, h2, h3⟩ := qM (i + 1) as vs p h; exact ⟨k + 1, av, v, by simpa using h1, by simpa using h2, by rw [show i + (k + 1) = i + 1 + k by omega]; exact h3⟩
 | i, .bp os :: as, v0 :: vs, p, h => by
   rcases List.mem_append.1 h with h | h
   · obtain ⟨j, A, h1, h2⟩ := xv os 0 p h; rw [Nat.zero_add] at h2; exact ⟨0, .bp os, v0, rfl, rfl, .inr (.inr ⟨os, j, A, rfl, h1, h2⟩)⟩
   · obtain ⟨k, av, v, h1, h2, h3⟩ := qM (i + 1) as vs p h; exact ⟨k + 1, av, v, by simpa using h1, by simpa using h2, by rw [show i + (k + 1) = i + 1 + k by omega]; exact h3⟩
theorem IL {lc : Nat → Nat → Loc} : (i : Nat) → (as : List AV) → (vs : List Value) → as.length = vs.length → ∀ k av v, as[k]? = some av → vs[k]? = some v → (∀ A, av = .io A → Jc.arr (i + k) 0 1 A.r.width A.xs.length (lc (i + k) 0) ∈ AO lc i as vs) ∧ (∀ os, av = .box os → Jc.box (i + k) 1 (match v with | .pointer (some ad) => ad.block | _ => 0) ∈ AO lc i as vs) ∧ (∀ os, av = .bp os → ∀ j A, os[j]? = some (.own A) → Jc.arr (i + k) j 1 A.r.width A.xs.length (lc (i + k) j) ∈ AO lc i as vs)
 | _, [], _, _, k, av, v, h, _ => by simp at h
 | _, _ :: _, [], hn, _, _, _, _, _ => by simp at hn
 | i, a0 :: as, v0 :: vs, hn, 0, av, v, h1, h2 => by
   simp only [List.getElem?_cons_zero, Option.some.injEq] at h1 h2; subst h1 h2; refine ⟨fun A e => ?_, fun os e => ?_, fun os e j A hj => ?_⟩
   · subst e; exact List.mem_cons_self
   · subst e; exact List.mem_cons_self
   · subst e; have := yZ (lc := lc i) (i := i) os 0 j A hj; rw [Nat.zero_add] at this; exact List.mem_append_left _ this
 | i, a0 :: as, v0 :: vs, hn, k + 1, av, v, h1, h2 => by
   obtain ⟨g1, g2, g3⟩ := IL (i + 1) as vs (by simpa using hn) k av v (by simpa using h1) (by simpa using h2); have e : i + (k + 1) = i + 1 + k := by omega
   rw [e]
   cases a0 with
   | val _ _ => exact ⟨g1, g2, g3⟩
   | io _ => exact ⟨fun A h => List.mem_cons_of_mem _ (g1 A h), fun os h => List.mem_cons_of_mem _ (g2 os h), fun os h j A hj => List.mem_cons_of_mem _ (g3 os h j A hj)⟩
   | box _ => exact ⟨fun A h => List.mem_cons_of_mem _ (g1 A h), fun os h => List.mem_cons_of_mem _ (g2 os h), fun os h j A hj => List.mem_cons_of_mem _ (g3 os h j A hj)⟩
   | bp _ => exact ⟨fun A h => List.mem_append_right _ (g1 A h), fun os h => List.mem_append_right _ (g2 os h), fun os h j A hj => List.mem_append_right _ (g3 os h j A hj)⟩
def kj (ps : List AP) (mu : Mu) : Prop :=
 ∀ p ∈ mu.an, (∃ i r W n l, p = .arr i 0 1 W n l ∧ ∃ d, ps[i]? = some (.io r d)) ∨ (∃ i lP b qs, p = .box i 1 lP ∧ ps[i]? = some (.box b qs)) ∨ ∃ i j W n l qs, p = .arr i j 1 W n l ∧ ps[i]? = some (.bp qs)
theorem AQ : (ps : List OP) → (t : RT) → (os : List OV) → (y : ak t) → {x : ak (j2 ps t)} → cI ps t os y = some x → ∀ (j : Nat) (A : fL), os[j]? = some (.own A) → (∃ r d, ps[j]? = some (.own r d)) ∧ ∃ B : fL, (cR ps t x).1[j]? = some (.own B) ∧ B.r.width = A.r.width ∧ B.xs.length = A.xs.length
 | [], t, [], y, x, h => by intro k A hk; simp at hk
 | [], _, _ :: _, _, _, h => by simp [cI] at h
 | _ :: _, _, [], _, _, h => by simp [cI] at h
 | p :: ps, t, o :: os, y, x, h => by
   unfold cI at h
   cases h1 : oW p o with
   | none => simp [h1] at h
   | some a =>
     cases h2 : cI ps t os y with
     | none => simp [h1, h2] at h
     | some z =>
       simp only [h1, h2] at h; have h : (a, z) = x := Option.some.inj h; subst h; intro j A hj
       cases j with
       | succ j =>
         obtain ⟨⟨r, d, q1⟩, B, q2, q3⟩ := AQ ps t os y h2 j A (by simpa using hj); exact ⟨⟨r, d, by simpa using q1⟩, B, (by show (cR ps t z).1[j]? = _; exact q2), q3⟩
       | zero =>
         simp only [List.getElem?_cons_zero, Option.some.injEq] at hj; subst hj
         cases p with
         | own r d =>
           have h1 : (bif A.md.is d then bo r A.xs else none) = some a := h1; obtain ⟨_, h1⟩ := aD h1; obtain ⟨er, KT⟩ := aX h1; refine ⟨⟨r, d, rfl⟩, { r := r, own := true, xs := a, md := d }, rfl, by show r.width = _; rw [← er], ?_⟩; show List.length (a : List (ak r)) = _; rw [KT]
           cases er
           rfl
         | _ => cases h1
theorem za : (ps : List AP) → (cT : List AV) → {x : ak (ar (ps.map some))} → ey ps cT = some x → ∀ (k : Nat) (av : AV), cT[k]? = some av → ∃ p : AP, ps[k]? = some p ∧ match p, av with
   | .io _ _, .io A => ∃ B : fL, (bM (ps.map some) x)[k]? = some (some (.io B)) ∧ B.r.width = A.r.width ∧ B.xs.length = A.xs.length
   | .box _ _, .box _ => True
   | .val _ _, .val _ _ => True
   | .bp qs, .bp os => ∃ xi : List OV, (bM (ps.map some) x)[k]? = some (some (AV.bp xi)) ∧ ∀ (j : Nat) (A : fL), os[j]? = some (OV.own A) → (∃ r d, qs[j]? = some (OP.own r d)) ∧ ∃ B : fL, xi[j]? = some (OV.own B) ∧ B.r.width = A.r.width ∧ B.xs.length = A.xs.length
   | _, _ => False
 | [], [], _, _ => by intro k av h; simp at h
 | [], _ :: _, _, hx => by simp [ey] at hx
 | _ :: _, [], _, hx => by simp [ey] at hx
 | p :: ps, av :: cT, x, hx => by
   unfold ey at hx
   cases hy : ey ps cT with
   | none => simp [hy] at hx
   | some y =>
     simp only [hy] at hx; have e2 : (p.av (ar (ps.map some)) x).2 = y := (Fe (c := ⟨fun _ => 0, fun _ _ => .nil, fun _ => none⟩) (w := default) (i := 0) (lc := fun _ => .nil) hx).1; intro k IH hk
     cases k with
     | zero =>
       simp only [List.getElem?_cons_zero, Option.some.injEq] at hk; subst hk; refine ⟨p, rfl, ?_⟩
       cases p with
       | val agg qs => cases av with
         | val _ _ => trivial
         | io _ => cases agg <;> cases hx
         | box _ => cases agg <;> cases hx
         | bp _ => cases agg <;> cases hx
       | io r d => cases av with
         | val _ _ => cases hx
         | box _ => cases hx
         | bp _ => cases hx
         | io A =>
           have hx : (bif A.md.is d then (match bo r A.xs with | some xs => some ((xs, y) : ak (.cons (.sl r) (ar (ps.map some)))) | none => none) else none) = some x := hx; obtain ⟨_, hx⟩ := aD hx
           cases hc : bo r A.xs with
           | none => rw [hc] at hx; cases hx
           | some xs =>
             rw [hc] at hx; injection hx with hx; obtain ⟨er, KT⟩ := aX hc; refine ⟨{ r := r, own := true, xs := x.1, md := d }, rfl, by show r.width = _; rw [← er], ?_⟩; show List.length (x.1 : List (ak r)) = _; rw [← hx]; show xs.length = _; rw [KT]
             cases er
             rfl
       | box b qs => cases av with
         | val _ _ => cases hx
         | io _ => cases hx
         | bp _ => cases hx
         | box _ => trivial
       | bp qs => cases av with
         | val _ _ => cases hx
         | io _ => cases hx
         | box _ => cases hx
         | bp os =>
           have hx : cI qs (ar (ps.map some)) os y = some x := hx; exact ⟨_, rfl, AQ qs _ os y hx⟩
     | succ k =>
       obtain ⟨p', h1, h2⟩ := za ps cT hy k IH (by simpa using hk); refine ⟨p', by simpa using h1, ?_⟩; have eh : (bM ((p :: ps).map some) x)[k + 1]? = (bM (ps.map some) y)[k]? := by
         show (bM (ps.map some) (p.av (ar (ps.map some)) x).2)[k]? = _; rw [e2]
       cases p' <;> cases IH <;> simp only at h2 ⊢ <;> (try exact h2)
       · obtain ⟨B, q1, q2, q3⟩ := h2; exact ⟨B, eh.trans q1, q2, q3⟩
       · obtain ⟨xi, q1, q2⟩ := h2; exact ⟨xi, eh.trans q1, q2⟩
end Go.TM
namespace Go.TM
open Go Go.RowKit
theorem Ff {P : Program} {fn : Func} {tm : Array Value} {w : World} {vals : List Value} (h : (fn.results.toList.mapM (AN tm)).run P w = .ok vals w) :
   (results fn tm).run P w = .ok (if hs : vals.toArray.size = 1 then vals.toArray[0] else .tuple vals.toArray) w := by
 have e : results fn tm = (do let vs ← fn.results.mapM (AN tm); pure (if h : vs.size = 1 then vs[0] else .tuple vs) : Sem Value) := rfl; rw [e, Array.mapM_eq_mapM_toList]; simp [Sem.run_bind, h]
theorem Fg {c : Cz} {w : World} {mu : Mu} {lc : Nat → Nat → Loc} {cT : List AV} {args : Array Value} (hH : Handed c w mu) (hA : vI c w lc 0 cT args.toList) {ps : List AP} {x : ak (ar (ps.map some))} (hx : ey ps cT = some x) {n : Nat} (hn : ps.length ≤ n) :
   ∃ (zP : Mu) (c' : Cz), zP.m = mu.m ∧ zP.ok = mu.ok ∧ kj ps zP ∧ DF zP lc 0 ps cT args.toList ∧ args.size = ps.length ∧ cT.length = ps.length ∧
     Rel w zP c' (start n ps x) { tmps := args ++ Array.replicate (n - args.size) undef, defers := [] } w := by
 obtain ⟨l1, l2, hold⟩ := uN ps 0 cT args.toList hx hA; have LZ := za ps cT hx; have AR : args.size = ps.length := by rw [l2]; simp
 let a : Act := { tmps := args ++ Array.replicate (n - args.size) undef, defers := [] }
 have PT : ∀ k v, args.toList[k]? = some v → a.eval (.tmp k) = v := by
   intro k v hk; have bQ : k < args.size := by
     have := (List.getElem?_eq_some_iff.1 hk).1; simpa using this
   show (args ++ Array.replicate (n - args.size) undef).getD k undef = v; rw [Array.getD_eq_getD_getElem?, Array.getElem?_append_left bQ]; rw [Array.getElem?_toList] at hk; rw [hk]; rfl
 let zP : Mu := { m := mu.m, ok := mu.ok, an := AO lc 0 cT args.toList }
 have hlen : (bM (ps.map some) x ++ List.replicate (n + 1 - ps.length) none).length = n + 1 := by
   rw [List.length_append, nZ]; simp; omega
 have EH : ∀ (i : Nat) (av : AV), (bM (ps.map some) x ++ List.replicate (n + 1 - ps.length) none)[i]? = some (some av) → (bM (ps.map some) x)[i]? = some (some av) := by
   intro i av hi
   by_cases h : i < (bM (ps.map some) x).length
   · rwa [List.getElem?_append_left h] at hi
   · rw [List.getElem?_append_right (by omega), List.getElem?_replicate] at hi
     split at hi <;> simp at hi
 have yl : yQ w zP c w := ⟨fun b l hb => ⟨hH.lt b l hb, (hH.lb b l hb).imp id fun hh => .inr ((hH.m b).2 ⟨l, hb, hh⟩)⟩, fun b _ hb => .inr ((hH.ok b).2 hb), ⟨rfl, rfl, rfl, Nat.le_refl _⟩, fun _ _ _ => rfl⟩; have Rs : ym c w lc a 0 (bM (ps.map some) x ++ List.replicate (n + 1 - ps.length) none) := by
   intro i av hi; obtain ⟨v, h1, h2⟩ := hold i av (EH i av hi); have := PT i v h1; rw [Nat.zero_add] at h2 ⊢; rw [this]; exact h2
 have PU : ∀ k av v, cT[k]? = some av → args.toList[k]? = some v → p9 c w k (lc k) av v := by
   have key : ∀ (cT : List AV) (i : Nat) (vs : List Value), vI c w lc i cT vs → ∀ k av v, cT[k]? = some av → vs[k]? = some v → p9 c w (i + k) (lc (i + k)) av v := by
     intro cT
     induction cT with
     | nil => intro i vs _ k av v h; simp at h
     | cons a0 cT ih =>
       intro i vs h k av v h1 h2; obtain ⟨v0, l, rfl, g1, g2⟩ := h
       cases k with
       | zero => simp at h1 h2; subst h1 h2; exact g1
       | succ k =>
         have := ih (i + 1) l g2 k av v (by simpa using h1) (by simpa using h2)
         rwa [show i + 1 + k = i + (k + 1) by omega] at this
   intro k av v h1 h2; have := key cT 0 args.toList hA k av v h1 h2
   rwa [Nat.zero_add] at this
 have VH : ∀ p ∈ zP.an, LS (bM (ps.map some) x ++ List.replicate (n + 1 - ps.length) none) lc a p := by
   intro p hp; obtain ⟨k, av, v, h1, h2, h3⟩ := qM 0 cT args.toList p hp; have hk : k < ps.length := by rw [l1]; exact (List.getElem?_eq_some_iff.1 h1).1
   simp only [Nat.zero_add] at h3; obtain ⟨p', q1, q2⟩ := LZ k av h1; rcases h3 with ⟨A, rfl, rfl⟩ | ⟨os, rfl, rfl⟩ | ⟨os, j, A, rfl, hj, rfl⟩
   · refine ⟨rfl, by rw [hlen]; omega, fun IH Rt => .inl ?_⟩
     cases p' with
     | io r dd =>
       obtain ⟨B, e1, e2, e3⟩ := q2; have := EH k IH Rt; rw [e1] at this; simp only [Option.some.injEq] at this; exact ⟨B, this.symm, fun _ => ⟨e2, e3, rfl⟩⟩
     | val _ _ => exact q2.elim
     | box _ _ => exact q2.elim
     | bp _ => exact q2.elim
   · refine ⟨rfl, by rw [hlen]; omega, fun xi _ => ?_⟩; obtain ⟨lP, vs, ty, e1, _⟩ := PU k _ v h1 h2; rw [PT k v h2, e1]
   · refine ⟨rfl, by rw [hlen]; omega, fun IH Rt => .inr ?_⟩
     cases p' with
     | io r dd => exact q2.elim
     | val _ _ => exact q2.elim
     | box _ _ => exact q2.elim
     | bp qs =>
       obtain ⟨xi, e1, e2⟩ := q2; have := EH k IH Rt; rw [e1] at this; simp only [Option.some.injEq] at this; obtain ⟨_, B, e3, e4, e5⟩ := e2 j A hj; refine ⟨xi, this.symm, fun A' dP => ?_⟩; rw [e3] at dP; injection dP with dP; injection dP with dP; subst dP; exact ⟨e4, e5, rfl⟩
 obtain ⟨c', hR⟩ := Rel.IJ (a := a) yl rfl Rs VH; refine ⟨zP, c', rfl, rfl, fun p hp => ?_, fun k p av v h0 h1 h2 => ?_, AR, l1.symm, hR⟩
 · obtain ⟨k, av, v, h1, h2, h3⟩ := qM 0 cT args.toList p hp; simp only [Nat.zero_add] at h3; obtain ⟨p', q1, q2⟩ := LZ k av h1; rcases h3 with ⟨A, rfl, rfl⟩ | ⟨os, rfl, rfl⟩ | ⟨os, j, A, rfl, hj, rfl⟩
   · cases p' with
     | io r dd => exact .inl ⟨k, r, _, _, _, rfl, dd, q1⟩
     | val _ _ => exact q2.elim
     | box _ _ => exact q2.elim
     | bp _ => exact q2.elim
   · cases p' with
     | io r dd => exact q2.elim
     | val _ _ => exact q2.elim
     | box b qs => exact .inr (.inl ⟨k, _, b, qs, rfl, q1⟩)
     | bp _ => exact q2.elim
   · cases p' with
     | io r dd => exact q2.elim
     | val _ _ => exact q2.elim
     | box b qs => exact q2.elim
     | bp qs => exact .inr (.inr ⟨k, j, _, _, _, qs, rfl, q1⟩)
 · obtain ⟨p', q1, q2⟩ := LZ k av h1; rw [h0] at q1
   cases q1
   have hh := PU k av v h1 h2; obtain ⟨a1, a2, a3⟩ := IL (lc := lc) 0 cT args.toList (by rw [← l1, l2]) k av v h1 h2; rw [Nat.zero_add] at a1 a2 a3 ⊢
   cases p with
   | val _ _ => cases av with
     | val _ _ => trivial
     | io _ => exact q2.elim
     | box _ => exact q2.elim
     | bp _ => exact q2.elim
   | bp qs => cases av with
     | val _ _ => exact q2.elim
     | io _ => exact q2.elim
     | box _ => exact q2.elim
     | bp os =>
       obtain ⟨us, rfl, hl, LH⟩ := hh; obtain ⟨xi, _, e2⟩ := q2; obtain ⟨n1, _⟩ := ba.LR os 0 _ hl; refine ⟨us, rfl, fun j A hj => ⟨(e2 j A hj).1, ?_⟩⟩; have bQ : j < us.toList.length := by rw [n1]; exact (List.getElem?_eq_some_iff.1 hj).1
       have hO : OwnAt c w (.bG k j) (lc k j) A us.toList[j] := LH j _ _ hj (List.getElem?_eq_getElem bQ); exact ⟨_, List.getElem?_eq_getElem bQ, hO.1, hO.2.1, a3 os rfl j A hj⟩
   | io r dd => cases av with
     | val _ _ => exact q2.elim
     | box _ => exact q2.elim
     | bp _ => exact q2.elim
     | io A =>
       have hO : OwnAt c w (.bG k 0) (lc k 0) A v := hh; exact ⟨hO.1, hO.2.1, a1 A rfl⟩
   | box _ _ => cases av with
     | val _ _ => exact q2.elim
     | io _ => exact q2.elim
     | bp _ => exact q2.elim
     | box os =>
       obtain ⟨lP, vs, ty, e1, _⟩ := hh; refine ⟨lP, e1, ?_⟩; have := a2 os rfl; rw [e1] at this; exact this
theorem G3 {P : Program} {T : jh} (hT : fi P T) {w0 : World} {mu zP : Mu} (hm : zP.m = mu.m) (fh : zP.ok = mu.ok) {c : Cz} {st : St} {a : Act} {w : World} (h : Rel w0 zP c st a w) {fn : Func} {ps : List AP} {rs : List RP} (Vi : vL T a.tmps fn.results.toList rs)
   {lc : Nat → Nat → Loc} {cT : List AV} {vs : List Value} (h1 : ps.length = cT.length) (h2 : ps.length = vs.length) (hl : DF zP lc 0 ps cT vs) {e : Ex} {y : ak (bR rs (bd ps))} (hf : xu rs ps e st = some y) :
   (e = .normal ∨ e = .ret) ∧ ∃ v, (results fn a.tmps).run P w = .ok v w ∧ ∃ c', yQ w0 mu c' w ∧ oR c' w (eX rs (bd ps) y).1 v ∧ gd c' w lc 0 cT vs (kD ps (eX rs (bd ps) y).2) := by
 have he : e = .normal ∨ e = .ret := by
   cases e with
   | normal => exact .inl rfl
   | ret => exact .inr rfl
   | exit m => cases hf
 refine ⟨he, ?_⟩; have hf : ((qo st 0 ps).bind fun x => (AM st rs (bd ps) x.1).bind fun q => bif rk (bu q.2.1 ++ x.2.1) && apart (bu q.2.1 ++ x.2.1) (q.2.2 ++ x.2.2) then some q.1 else none) = some y := by
   rcases he with rfl | rfl <;> exact hf
 obtain ⟨qx, hqx, hf⟩ := Option.bind_eq_some_iff.1 hf; obtain ⟨qr, Zp, hf⟩ := Option.bind_eq_some_iff.1 hf; obtain ⟨m8, hy⟩ := aD hf; injection hy with hy; obtain ⟨x1, u1, r1⟩ := qx; obtain ⟨x2, u2, r2⟩ := qr; subst hy; rw [Bool.and_eq_true] at m8; obtain ⟨a1, tb, a2, a3, a4⟩ := qL h ps 0 cT vs h1 h2 hl hqx; obtain ⟨b1, b2, b3, vals, b4, b5, b6⟩ := CQ hT h fn.results.toList rs Vi (bd ps) x1 Zp; have yU : ∀ l ∈ bu u2 ++ u1, l.real = true := fun l hl => (List.mem_append.1 hl).elim (b3 l) (a1 l)
 have GJ := mj _ yU m8.1; have BR : ∀ p ∈ r2 ++ r1, Lb.sp p.1 p.2 ∉ bu u2 ++ u1 := by
   intro p hp hm; have h1 := List.all_eq_true.1 m8.2 p hp; have h2 := List.all_eq_true.1 h1 _ hm; rw [(Lb.xj rfl).2 rfl] at h2
   cases h2
 let tab := xl .gp 0 u2 ++ tb
 have VI : tab.map (·.1) = bu u2 ++ u1 := by show (xl .gp 0 u2 ++ tb).map _ = _; rw [List.map_append, xm, a2]
 have oO := Classical.propDecidable
 let ρ : Lb → Option Lb := fun l => match look tab l with | some y => some y | none => if l = .out then some .out else none
 have hρt : ∀ p ∈ tab, ρ p.1 = some p.2 := by
   intro p hp; have := xk tab (by rw [VI]; exact GJ) hp; show (match look tab p.1 with | some y => some y | none => _) = _; rw [this]
 have xo : ∀ {l y}, look tab l = some y → l ∈ bu u2 ++ u1 := by
   intro l y hl; have := uL tab hl; rw [← VI]; exact List.mem_map.2 ⟨_, this, rfl⟩
 have hρr : ∀ p ∈ r2 ++ r1, ρ (.sp p.1 p.2) = none := by
   intro p hp; show (match look tab (.sp p.1 p.2) with | some y => some y | none => if Lb.sp p.1 p.2 = .out then some Lb.out else none) = none
   cases hl : look tab (.sp p.1 p.2) with
   | some y => exact absurd (xo hl) (BR p hp)
   | none => simp
 have hρo : ρ .out = some .out := by
   show (match look tab Lb.out with | some y => some y | none => if Lb.out = Lb.out then some Lb.out else none) = _
   cases hl : look tab Lb.out with
   | some y => have := yU _ (xo hl); cases this
   | none => simp
 have yl : yQ w0 mu (c.map ρ) w := by
   refine ⟨fun b l hb => ?_, fun b hb hn => ?_, h.kept, by rw [← hm]; exact h.old⟩
   · obtain ⟨k, hk, e⟩ := Cz.map_some hb; obtain ⟨g1, g2⟩ := h.owned b k hk; refine ⟨g1, ?_⟩; rw [← hm]; refine g2.imp (fun e2 => ?_) id; subst e2; rw [hρo] at e
     cases e; rfl
   · rw [← hm, ← fh]
     cases hk : c.own b with
     | none => exact h.free b hb hk
     | some k =>
       have e : ρ k = none := (Cz.iZ (ρ := ρ) hk).symm.trans hn; rcases (h.owned b k hk).2 with g | g | g
       · subst g; rw [hρo] at e; cases e
       · exact absurd g (Nat.not_le_of_lt hb)
       · exact .inl g
 have hX := a4 ρ (fun p hp => hρt p (List.mem_append_right _ hp)) (fun p hp => hρr p (List.mem_append_right _ hp)); have hR := b6 ρ 0 (fun k l hk => by
   have := hρt _ (List.mem_append_left tb (tI .gp 0 u2 k l hk)); exact this) (fun p hp => hρr p (List.mem_append_left _ hp))
 refine ⟨_, Ff b4, c.map ρ, yl, ?_, by rw [b1]; exact hX⟩; have hlen : vals.length = (eX rs (bd ps) x2).1.length := by
   have : rs.length = fn.results.toList.length := by
     have key : ∀ (l : List ResultVar) (m : List RP), vL T a.tmps l m → m.length = l.length := by
       intro l
       induction l with
       | nil => intro m hm; cases m with
         | nil => rfl
         | cons _ _ => exact hm.elim
       | cons v l ih => intro m hm; cases m with
         | nil => exact hm.elim
         | cons r m => simp [ih m hm.2]
     exact key _ _ Vi
   rw [b5, b2, this]
 by_cases hs : vals.toArray.size = 1
 · rw [dif_pos hs]; have w5 : vals.length = 1 := by simpa using hs
   obtain ⟨v, rfl⟩ : ∃ v, vals = [v] := by
     cases vals with
     | nil => cases w5
     | cons v l => cases l with
       | nil => exact ⟨v, rfl⟩
       | cons _ _ => simp at w5
   rw [w5] at hlen
   cases ho : (eX rs (bd ps) x2).1 with
   | nil => rw [ho] at hlen; cases hlen
   | cons r l => cases l with
     | cons _ _ => rw [ho] at hlen; simp at hlen
     | nil =>
       rw [ho] at hR; exact .inl ⟨r, rfl, hR⟩
 · rw [dif_neg hs]; refine .inr ⟨by rw [← hlen]; simpa using hs, vals.toArray, rfl, by simpa using hR⟩
theorem Fh {P : Program} {T : jh} (hT : fi P T) (hE : uZ P T) {S : hZ} (hS : kC P S) {D : jj} {f : FuncId} {fn : Func} {code : Code} {n : Nat} {ps : List AP} {rs : List RP} {L : k9 (ak (bR rs (bd ps)))} {PV : Nat → Array Oper → Prop}
   {t : ak (ar (ps.map some)) → Option (ak (bR rs (bd ps)))}
   (hf : P.funcs[f]? = some fn) (hb : fn.body = some code) (hn : fn.ntmps = n) (Oq : ps.length ≤ n) (s6 : eE n code = true) (Al : ∀ tm, vL T tm fn.results.toList rs)
   (hL : ∀ (w0 : World) (mu : Mu) (y : ak (bR rs (bd ps))), kj ps mu → cX (ku P w0 mu n L y) code)
   (hD : ∀ (w0 : World) (mu : Mu), oB (ak (bR rs (bd ps))) P T S D w0 mu n PV) (VJ : dy PV code)
   (G4 : ∀ (w0 : World) (mu : Mu) (c : Cz) (a : Act) (w : World) x, Rel w0 mu c (start n ps x) a w → a.tmps.size = n → ∃ c2 fI, Rel w0 mu c2 fI a w ∧ dx T S D L code fI (xu rs ps) = t x) : FnOk P f (j4 ps rs t) := by
 intro c w mu lc cT args A y hH hA hs ho; unfold j4 at hs
 cases hx : ey ps cT with
 | none => rw [hx] at hs; cases hs
 | some x =>
   rw [hx] at hs; simp only [Option.some.injEq] at hs; subst hs; have zQ : t x = some y := ho; obtain ⟨zP, c', hm, fh, AS, IM, AR, JE, hR⟩ := Fg hH hA hx Oq; refine calls_of_wp hf hb ?_; rw [hn]; have jB : (args ++ Array.replicate (n - args.size) undef).size = n := by simp; omega
   obtain ⟨c2, fI, Za, VK⟩ := G4 w zP c' _ w x hR jB; refine xh (nY hT hE hS w zP n) (hD w zP) code s6 (hL w zP y AS) VJ (fun {e} {c1} {x4} {a1} {w1} h1 h2 h3 => ?_) Za jB (VK.trans zQ); obtain ⟨he, v, mA, c2, GV, hV, hX⟩ := G3 (P := P) hT hm fh h1 (Al a1.tmps) JE.symm (by rw [← AR]; simp) IM h3; have AG : a1.defers = [] ∧ ∃ v, (results fn a1.tmps).run P w1 = .ok v w1 ∧ (∃ v', Ending.returned v = .returned v' ∧ ∃ c', yQ w mu c' w1 ∧ oR c' w1 (eX rs (bd ps) y).1 v' ∧ gd c' w1 lc 0 cT args.toList (kD ps (eX rs (bd ps) y).2)) :=
     ⟨h1.plain, v, mA, v, rfl, c2, GV, hV, hX⟩
   rcases he with rfl | rfl <;> exact AG
theorem VL {P : Program} {T : jh} (hT : fi P T) (hE : uZ P T) {S : hZ} (hS : kC P S) {D : jj} {f : FuncId} {fn : Func} {code : Code} {n : Nat} {ps : List AP} {rs : List RP} {L : k9 (ak (bR rs (bd ps)))} {PV : Nat → Array Oper → Prop}
   {t : ak (ar (ps.map some)) → Option (ak (bR rs (bd ps)))}
   (hf : P.funcs[f]? = some fn) (hb : fn.body = some code) (hn : fn.ntmps = n) (Oq : ps.length ≤ n) (s6 : eE n code = true) (Al : ∀ tm, vL T tm fn.results.toList rs)
   (hL : ∀ (w0 : World) (mu : Mu) (y : ak (bR rs (bd ps))), kj ps mu → cX (ku P w0 mu n L y) code)
   (hD : ∀ (w0 : World) (mu : Mu), oB (ak (bR rs (bd ps))) P T S D w0 mu n PV) (VJ : dy PV code)
   (G4 : ∀ x, dx T S D L code (start n ps x) (xu rs ps) = t x) : FnOk P f (j4 ps rs t) :=
 Fh hT hE hS hf hb hn Oq s6 Al hL hD VJ (fun _ _ c _ _ x h _ => ⟨c, _, h, G4 x⟩)
end Go.TM
namespace Go.TM
open Go Go.RowKit
def iter {X E : Type} (round : X → Option (Sum X E)) : Nat → X → Option E
 | 0, _ => none
 | n + 1, x => match round x with
   | some (.inl y) => iter round n y
   | some (.inr e) => some e
   | none => none
theorem yn {X E : Type} {round : X → Option (Sum X E)} : (n : Nat) → {x : X} → {e : E} → iter round n x = some e → ∀ m, n ≤ m → iter round m x = some e
 | 0, _, _, h, _, _ => by cases h
 | n + 1, x, e, h, 0, hm => by omega
 | n + 1, x, e, h, m + 1, hm => by
   unfold iter at h ⊢
   cases hr : round x with
   | none => rw [hr] at h; cases h
   | some z => cases z with
     | inl y => rw [hr] at h; exact yn n h m (by omega)
     | inr e' => rw [hr] at h; exact h
noncomputable def aE {X E : Type} (round : X → Option (Sum X E)) (x : X) : Option E :=
 have := Classical.propDecidable (∃ e n, iter round n x = some e)
 if h : ∃ e n, iter round n x = some e then some (Classical.choose h) else none
theorem AT {X E : Type} {round : X → Option (Sum X E)} {x : X} {e : E} {n : Nat} (h : iter round n x = some e) : aE round x = some e := by
 have hex : ∃ e n, iter round n x = some e := ⟨e, n, h⟩; unfold aE; simp only; rw [dif_pos hex]; obtain ⟨m, hm⟩ := Classical.choose_spec hex; have h1 := yn m hm (max m n) (Nat.le_max_left _ _); have h2 := yn n h (max m n) (Nat.le_max_right _ _); rw [h1] at h2; exact h2
theorem rJ {X E : Type} {round : X → Option (Sum X E)} {x : X} {e : E} (h : aE round x = some e) : ∃ n, iter round n x = some e := by
 unfold aE at h; simp only at h
 split at h
 · rename_i hex; injection h with h; rw [← h]; exact Classical.choose_spec hex
 · cases h
theorem iy {X E : Type} (round : X → Option (Sum X E)) (x : X) : aE round x = match round x with | some (.inl y) => aE round y | some (.inr e) => some e | none => none := by
 cases hr : round x with
 | none =>
   cases h : aE round x with
   | none => rfl
   | some e =>
     obtain ⟨n, hn⟩ := rJ h
     cases n with
     | zero => cases hn
     | succ n => unfold iter at hn; rw [hr] at hn; cases hn
 | some z => cases z with
   | inr e => exact AT (n := 1) (by unfold iter; rw [hr])
   | inl y =>
     simp only
     cases h : aE round y with
     | some e =>
       obtain ⟨n, hn⟩ := rJ h; exact AT (n := n + 1) (by unfold iter; rw [hr]; exact hn)
     | none =>
       cases h2 : aE round x with
       | none => rfl
       | some e =>
         obtain ⟨n, hn⟩ := rJ h2
         cases n with
         | zero => cases hn
         | succ n =>
           unfold iter at hn; rw [hr] at hn; rw [AT hn] at h
           cases h
def AU (st : St) (hp : List (Option AP)) : Option (ak (ar hp)) :=
 (lj st 0 hp).bind fun q => bif rk q.2.1 && apart q.2.1 q.2.2 then some q.1 else none
def l8 (hp : List (Option AP)) (x : ak (ar hp)) : St := lQ 0 (bM hp x)
def fq : List AP → List (Option AP) → Bool
 | [], _ => true
 | .val _ _ :: ps, _ :: hp => fq ps hp
 | .io _ _ :: ps, o :: hp => (match o with | none => true | some (.io _ _) => true | _ => false) && fq ps hp
 | .box _ _ :: ps, o :: hp => (match o with | none => true | some (.box l _) => l | some (.val _ _) => true | _ => false) && fq ps hp
 | .bp _ :: _, _ :: _ => false
 | _ :: _, [] => false
theorem rK : (ps : List AP) → (hp : List (Option AP)) → fq ps hp = true → ∀ (i : Nat) (p : AP), ps[i]? = some p → ∃ o, hp[i]? = some o ∧ match p with
   | .val _ _ => True
   | .io _ _ => o = none ∨ ∃ r d, o = some (.io r d)
   | .box _ _ => o = none ∨ (∃ a b, o = some (.val a b)) ∨ ∃ b, o = some (.box true b)
   | .bp _ => False
 | [], _, _ => by intro i p h; simp at h
 | p :: ps, [], h => by cases p <;> simp [fq] at h
 | p :: ps, o :: hp, h => by
   intro i p' hi; have eC : fq ps hp = true := by
     cases p with
     | val _ _ => exact h
     | io _ => unfold fq at h; rw [Bool.and_eq_true] at h; exact h.2
     | bp _ => cases h
     | box _ _ => unfold fq at h; rw [Bool.and_eq_true] at h; exact h.2
   cases i with
   | succ i => exact (rK ps hp eC i p' (by simpa using hi)).imp fun o ho => ⟨by simpa using ho.1, ho.2⟩
   | zero =>
     simp only [List.getElem?_cons_zero, Option.some.injEq] at hi; subst hi; refine ⟨o, rfl, ?_⟩
     cases p with
     | val _ _ => trivial
     | bp _ => cases h
     | io _ =>
       unfold fq at h; rw [Bool.and_eq_true] at h
       cases o with
       | none => exact .inl rfl
       | some q => cases q with
         | io r d => exact .inr ⟨r, d, rfl⟩
         | val _ _ => cases h.1
         | box _ _ => cases h.1
         | bp _ => cases h.1
     | box _ _ =>
       unfold fq at h; rw [Bool.and_eq_true] at h
       cases o with
       | none => exact .inl rfl
       | some q => cases q with
         | io r d => cases h.1
         | bp _ => cases h.1
         | val a b => exact .inr (.inl ⟨a, b, rfl⟩)
         | box l b =>
           have : l = true := h.1; subst this; exact .inr (.inr ⟨b, rfl⟩)
end Go.TM
namespace Go.TM
open Go Go.RowKit
theorem L0 {st : St} {k : Nat} {rr : RT} {dd : Md} {t : RT} {V : V} {y : ak t} {x : ak (.cons (.sl rr) t)} {u : List Lb} {r : List (Nat × Nat)} (h : yY st k (.io rr dd) t V y = some (x, u, r)) : ∃ A, aQ st k 0 1 = some A ∧ bo rr A.xs = some x.1 := by
 cases V with
 | agg _ => cases h
 | kX _ => cases h
 | one cx => cases cx with
   | ref a j g vw => cases vw with
     | full =>
       have h : (bif Nat.beq a k && (Nat.beq j 0 && Nat.beq g 1) then ((aQ st a j g).bind fun A => bif A.own && A.md.is dd then (bo rr A.xs).map fun xs => ((xs, y), [Lb.sp a j], ([] : List (Nat × Nat))) else none) else none) = some (x, u, r) := h; obtain ⟨h1, h2⟩ := aD h; rw [Bool.and_eq_true, Bool.and_eq_true] at h1; have e1 := Nat.eq_of_beq_eq_true h1.1; have e2 := Nat.eq_of_beq_eq_true h1.2.1; have e3 := Nat.eq_of_beq_eq_true h1.2.2; subst e1 e2 e3; obtain ⟨A, hA, h3⟩ := Option.bind_eq_some_iff.1 h2; obtain ⟨_, h4⟩ := aD h3; obtain ⟨xs, PS, e⟩ := Option.map_eq_some_iff.1 h4; injection e with e _; exact ⟨A, hA, by rw [PS, ← e]; rfl⟩
     | «from» _ => cases h
     | sub _ _ => cases h
   | _ => cases h
theorem JJ {st : St} {k : Nat} {qs : List OP} {t : RT} {V : V} {y : ak t} {x : ak (j2 qs t)} {u : List Lb} {r : List (Nat × Nat)} (h : yY st k (.box true qs) t V y = some (x, u, r)) : V = .one (.ptr k 1 0) ∧ ∃ cs, de st k 1 = some cs := by
 cases V with
 | agg _ => cases h
 | kX _ => cases h
 | one cx => cases cx with
   | ptr b g off =>
     have h : (bif Nat.beq off 0 && (!true || (Nat.beq b k && Nat.beq g 1)) then ((de st b g).bind fun cs => (jo st qs t cs y).map fun q => (q.1, Lb.box b :: bu q.2.1, q.2.2)) else none) = some (x, u, r) := h; obtain ⟨h1, h2⟩ := aD h; simp only [Bool.not_true, Bool.false_or] at h1; rw [Bool.and_eq_true, Bool.and_eq_true] at h1; have e1 := Nat.eq_of_beq_eq_true h1.1; have e2 := Nat.eq_of_beq_eq_true h1.2.1; have e3 := Nat.eq_of_beq_eq_true h1.2.2; subst e1 e2 e3; obtain ⟨cs, tp, _⟩ := Option.bind_eq_some_iff.1 h2; exact ⟨rfl, cs, tp⟩
   | _ => cases h
theorem tR {w0 : World} {mu : Mu} {c : Cz} {st : St} {a : Act} {w : World} (h : Rel w0 mu c st a w) : (l : List (Option AP)) → (k : Nat) → {x : ak (ar l)} → {u : List Lb} → {r : List (Nat × Nat)} → lj st k l = some (x, u, r) → ∀ (i : Nat),
   (∀ rr dd, l[i]? = some (some (.io rr dd)) → ∃ B A : fL, (bM l x)[i]? = some (some (.io B)) ∧ aQ st (k + i) 0 1 = some A ∧ B.r.width = A.r.width ∧ B.xs.length = A.xs.length) ∧
   (∀ qs, l[i]? = some (some (.box true qs)) → (∃ cs, de st (k + i) 1 = some cs) ∧ bI st (k + i) = .one (.ptr (k + i) 1 0)) ∧
   (l[i]? = some none → (bM l x)[i]? = some none) ∧ (∀ ag b, l[i]? = some (some (.val ag b)) → ∃ os, (bM l x)[i]? = some (some (.val ag os)))
 | [], k, x, u, r, he => by intro i; simp
 | none :: l, k, x, u, r, he => by
   intro i
   cases i with
   | zero => exact ⟨fun _ _ h => by simp at h, fun _ h => by simp at h, fun _ => rfl, fun _ _ h => by simp at h⟩
   | succ i =>
     have := tR h l (k + 1) he i; rw [show k + 1 + i = k + (i + 1) by omega] at this; exact this
 | some p :: l, k, x, u, r, he => by
   intro i; unfold lj at he
   cases h1 : lj st (k + 1) l with
   | none => simp [h1] at he
   | some q1 =>
     obtain ⟨y, us, rs⟩ := q1; simp only [h1] at he
     cases h2 : yY st k p (ar l) (bI st k) y with
     | none => simp [h2] at he
     | some q2 =>
       obtain ⟨x1, u1, r1⟩ := q2; simp only [h2] at he; injection he with he; injection he with e1 e2; subst e1
       cases i with
       | succ i =>
         have hh := tR h l (k + 1) h1 i; rw [show k + 1 + i = k + (i + 1) by omega] at hh; have e : (p.av (ar l) x1).2 = y := (xr h k (h.eR k) h2).1; have e2 : (bM (some p :: l) x1)[i + 1]? = (bM l y)[i]? := by
           show (bM l (p.av (ar l) x1).2)[i]? = _; rw [e]
         rw [e2]; exact hh
       | zero =>
         have e2 : (bM (some p :: l) x1)[0]? = some (some (p.av (ar l) x1).1) := rfl; rw [e2]; simp only [List.getElem?_cons_zero, Option.some.injEq, Nat.add_zero]; refine ⟨fun rr dd e => ?_, fun qs e => ?_, (fun e => by cases e), fun ag b e => ?_⟩
         · subst e; obtain ⟨A, hA, hc⟩ := L0 h2; obtain ⟨er, KT⟩ := aX hc; refine ⟨_, A, rfl, hA, by show rr.width = _; rw [← er], ?_⟩; show List.length (x1.1 : List (ak rr)) = _; rw [KT]
           cases er
           rfl
         · subst e; obtain ⟨q1, q2⟩ := JJ h2; exact ⟨q2, q1⟩
         · subst e; exact ⟨_, rfl⟩
end Go.TM
namespace Go.TM
open Go Go.RowKit
theorem AW {w0 : World} {mu : Mu} {c : Cz} {st : St} {a : Act} {w : World} (h : Rel w0 mu c st a w) {ps : List AP} (hs : kj ps mu) {hp : List (Option AP)} (oN : fq ps hp = true) {x : ak (ar hp)} (hx : AU st hp = some x) : ∃ c', Rel w0 mu c' (l8 hp x) a w := by
 obtain ⟨q, hq, GK⟩ := Option.bind_eq_some_iff.1 hx; obtain ⟨m8, BX⟩ := aD GK; injection BX with BX; obtain ⟨x0, u, r⟩ := q; subst BX; rw [Bool.and_eq_true] at m8; obtain ⟨yU, tb, LB, Vp, hold⟩ := tQ h hp 0 hq; have VM := tR h hp 0 hq; have GJ := mj _ yU m8.1; have BR : ∀ p ∈ r, Lb.sp p.1 p.2 ∉ u := by
   intro p hp hm; have h1 := List.all_eq_true.1 m8.2 p hp; have h2 := List.all_eq_true.1 h1 _ hm; rw [(Lb.xj rfl).2 rfl] at h2
   cases h2
 have oO := Classical.propDecidable
 let ρ : Lb → Option Lb := fun l => match look tb l with | some y => some y | none => if l = .out then some .out else none
 have hρt : ∀ p ∈ tb, ρ p.1 = some p.2 := by
   intro p hp; have := xk tb (by rw [LB]; exact GJ) hp; show (match look tb p.1 with | some y => some y | none => _) = _; rw [this]
 have xo : ∀ {l y}, look tb l = some y → l ∈ u := by
   intro l y hl; have := uL tb hl; rw [← LB]; exact List.mem_map.2 ⟨_, this, rfl⟩
 have hρr : ∀ p ∈ r, ρ (.sp p.1 p.2) = none := by
   intro p hp; show (match look tb (.sp p.1 p.2) with | some y => some y | none => if Lb.sp p.1 p.2 = .out then some Lb.out else none) = none
   cases hl : look tb (.sp p.1 p.2) with
   | some y => exact absurd (xo hl) (BR p hp)
   | none => simp
 have hρo : ρ .out = some .out := by
   show (match look tb Lb.out with | some y => some y | none => if Lb.out = Lb.out then some Lb.out else none) = _
   cases hl : look tb Lb.out with
   | some y => have := yU _ (xo hl); cases this
   | none => simp
 have yl : yQ w0 mu (c.map ρ) w := by
   refine ⟨fun b l hb => ?_, fun b hb hn => ?_, h.kept, h.old⟩
   · obtain ⟨k, hk, e⟩ := Cz.map_some hb; obtain ⟨g1, g2⟩ := h.owned b k hk; refine ⟨g1, g2.imp (fun e2 => ?_) id⟩; subst e2; rw [hρo] at e
     cases e; rfl
   · cases hk : c.own b with
     | none => exact h.free b hb hk
     | some k =>
       have e : ρ k = none := (Cz.iZ (ρ := ρ) hk).symm.trans hn; rcases (h.owned b k hk).2 with g | g | g
       · subst g; rw [hρo] at e; cases e
       · exact absurd g (Nat.not_le_of_lt hb)
       · exact .inl g
 refine Rel.IJ yl h.plain (hold ρ hρt hρr) (fun p hpm => ?_); have OI := h.dO p hpm; have hlen : ∀ (i : Nat) (o : Option AP), hp[i]? = some o → i < (bM hp x0).length := fun i o ho => by rw [nZ]; exact (List.getElem?_eq_some_iff.1 ho).1
 rcases hs p hpm with ⟨i, rr, W, n, l, rfl, dd, Q8⟩ | ⟨i, lP, b, qs, rfl, Q8⟩ | ⟨i, j, W, n, l, qs, rfl, Q8⟩
 · obtain ⟨o, ho, VN⟩ := rK ps hp oN i _ Q8; refine ⟨rfl, hlen i o ho, fun av E0 => .inl ?_⟩; rcases VN with rfl | ⟨r2, d2, rfl⟩
   · rw [(VM i).2.2.1 ho] at E0; cases E0
   · obtain ⟨B, A, e1, e2, e3, e4⟩ := (VM i).1 r2 d2 ho; rw [e1] at E0; simp only [Option.some.injEq] at E0; rw [Nat.zero_add] at e2; obtain ⟨f1, f2, f3⟩ := OI.2 A e2; exact ⟨B, E0.symm, fun _ => ⟨e3.trans f1, e4.trans f2, f3⟩⟩
 · obtain ⟨o, ho, VN⟩ := rK ps hp oN i _ Q8; refine ⟨rfl, hlen i o ho, fun os ql => ?_⟩; rcases VN with rfl | ⟨a1, b1, rfl⟩ | ⟨b1, rfl⟩
   · rw [(VM i).2.2.1 ho] at ql; cases ql
   · obtain ⟨xi, e⟩ := (VM i).2.2.2 a1 b1 ho; rw [e] at ql; cases ql
   · obtain ⟨⟨cs, tp⟩, hv⟩ := (VM i).2.1 b1 ho; rw [Nat.zero_add] at tp hv; have qI := h.eR i; rw [hv] at qI; rw [qI.2.2 cs tp, OI.2 cs tp]
 · obtain ⟨o, ho, VN⟩ := rK ps hp oN i _ Q8; exact VN.elim
def yo (id : Nat) (hp e0 e1 : List (Option AP)) : Ex → St → Option (Sum (ak (ar hp)) (Sum (ak (ar e0)) (ak (ar e1))))
 | .normal, st => (AU st hp).map .inl
 | .exit m, st => bif Nat.beq m id then (AU st e0).map fun y => .inr (.inl y) else none
 | .ret, st => (AU st e1).map fun y => .inr (.inr y)
noncomputable def yp {R : Type} (hp e0 e1 : List (Option AP)) (round : ak (ar hp) → Option (Sum (ak (ar hp)) (Sum (ak (ar e0)) (ak (ar e1))))) (st : St) (k : Ex → St → Option R) : Option R :=
 (AU st hp).bind fun x => (aE round x).bind fun z => match z with
   | .inl y => k .normal (l8 e0 y)
   | .inr y => k .ret (l8 e1 y)
theorem OJ {R : Type} {P : Program} {T : jh} {S : hZ} {D : jj} {n id : Nat} {w0 : World} {mu : Mu} {ps : List AP} {hp e0 e1 : List (Option AP)} {b : Code} {r : R} {L : k9 R} {PV : Nat → Array Oper → Prop}
   {L' : k9 (Sum (ak (ar hp)) (Sum (ak (ar e0)) (ak (ar e1))))} {round : ak (ar hp) → Option (Sum (ak (ar hp)) (Sum (ak (ar e0)) (ak (ar e1))))}
   (BY : p8 P T S w0 mu n) (hD : oB (Sum (ak (ar hp)) (Sum (ak (ar e0)) (ak (ar e1)))) P T S D w0 mu n PV) (hs : kj ps mu) (hf : (fq ps hp && (fq ps e0 && fq ps e1)) = true) (s6 : eE n b = true) (VJ : dy PV b)
   (Am : ∀ z, cX (ku P w0 mu n L' z) b) (G5 : ∀ x, dx T S D L' b (l8 hp x) (yo id hp e0 e1) = round x) (hL : ∀ st k, L id b st k = yp hp e0 e1 round st k) : ku P w0 mu n L r id b := by
 intro k Q hk c st a w h hn hv; rw [Bool.and_eq_true, Bool.and_eq_true] at hf; rw [hL] at hv; unfold yp at hv; obtain ⟨x, hx, hv⟩ := Option.bind_eq_some_iff.1 hv; obtain ⟨z, hz, hv⟩ := Option.bind_eq_some_iff.1 hv; obtain ⟨c1, h1⟩ := AW h hs hf.1 hx; obtain ⟨m, hm⟩ := rJ hz; refine wp_block ?_; refine wp_loop_ghost (fun m a w => ∃ x c, Rel w0 mu c (l8 hp x) a w ∧ a.tmps.size = n ∧ iter round m x = some z) m ⟨x, c1, h1, hn, hm⟩ ?_
 rintro m a w ⟨x, c, hR, hn, hi⟩
 cases m with
 | zero => cases hi
 | succ m =>
   unfold iter at hi
   cases hr : round x with
   | none => rw [hr] at hi; cases hi
   | some y =>
     rw [hr] at hi; refine xh BY hD b s6 (Am y) VJ (fun {e} {c2} {fI} {a2} {w2} g1 g2 g3 => ?_) hR hn ((G5 x).trans hr)
     cases e with
     | normal =>
       obtain ⟨x2, q1, rfl⟩ := Option.map_eq_some_iff.1 g3; obtain ⟨c3, g4⟩ := AW g1 hs hf.1 q1; exact ⟨m, Nat.lt_succ_self m, x2, c3, g4, g2, hi⟩
     | exit m' =>
       obtain ⟨zb, g5⟩ := aD g3; have zb := Nat.eq_of_beq_eq_true zb; subst zb; obtain ⟨x2, q1, rfl⟩ := Option.map_eq_some_iff.1 g5; injection hi with hi; subst hi; obtain ⟨c3, g4⟩ := AW g1 hs hf.2.1 q1; show (if m' = m' then Q .normal a2 w2 else Q (.exit m') a2 w2); rw [if_pos rfl]; exact hk g4 g2 hv
     | ret =>
       obtain ⟨x2, q1, rfl⟩ := Option.map_eq_some_iff.1 g3; injection hi with hi; subst hi; obtain ⟨c3, g4⟩ := AW g1 hs hf.2.2 q1; exact hk g4 g2 hv
end Go.TM
namespace Go.TM
open Go Go.RowKit
section
variable {P : Program} {ops : Array Oper} {Q : Exit → Act → World → Prop} {md : Region.Mode} {ds : List Nat}
def qp (md : Region.Mode) (ops : Array Oper) (i : Nat) : Nat → Nat → Bool
 | 0, _ => false
 | fuel + 1, d => match ops[d]? with
   | some o => o.after.any fun e => Region.binds md e && (e.on == i || qp md ops i fuel e.on)
   | none => false
def qt (md : Region.Mode) (ops : Array Oper) (aM : Array Bool) : Prop :=
 ∀ j oj, ops[j]? = some oj → aM.getD j false = true → ∀ e ∈ oj.after, Region.binds md e = true → aM.getD e.on false = true
theorem qt.set {aM : Array Bool} {i : Nat} (h : qt md ops aM) (hi : i ∈ Region.ready md ops aM) : qt md ops (aM.setIfInBounds i true) := by
 obtain ⟨_, oi, IN, oS⟩ := mem_ready.1 hi; intro j oj hj hl e he hb
 by_cases N8 : i = j
 · subst N8; have : oj = oi := Option.some.inj (hj.symm.trans IN); subst this; exact getD_set_true (oS e he hb)
 · rw [getD_set_ne false N8] at hl; exact getD_set_true (h j oj hj hl e he hb)
theorem qt.none (md : Region.Mode) (ops : Array Oper) (n : Nat) : qt md ops (Array.replicate n false) := by
 intro j oj _ hl; simp [Array.getD_eq_getD_getElem?, Array.getElem?_replicate] at hl
 split at hl <;> simp at hl
theorem xw {aM : Array Bool} {i : Nat} (hc : qt md ops aM) : ∀ (fuel d : Nat), qp md ops i fuel d = true → aM.getD d false = true → aM.getD i false = true
 | 0, _, h, _ => by simp [qp] at h
 | fuel + 1, d, h, hl => by
   unfold qp at h
   cases ho : ops[d]? with
   | none => rw [ho] at h; simp at h
   | some o =>
     rw [ho] at h; obtain ⟨e, he, h1⟩ := Array.any_eq_true'.1 h; simp only [Bool.and_eq_true, Bool.or_eq_true, beq_iff_eq] at h1; have hle := hc d o ho hl e he h1.1; rcases h1.2 with h2 | h2
     · rw [← h2]; exact hle
     · exact xw hc fuel e.on h2 hle
theorem zG {aM : Array Bool} {i d fuel : Nat} (hc : qt md ops aM) (hr : qp md ops i fuel d = true) (Ep : aM.getD i true = false) : d ∉ Region.ready md ops aM := by
 intro hd; obtain ⟨_, o, ho, oS⟩ := mem_ready.1 hd; have hi : aM.getD i false = true := by
   cases fuel with
   | zero => simp [qp] at hr
   | succ n =>
     unfold qp at hr; rw [ho] at hr; obtain ⟨e, he, h1⟩ := Array.any_eq_true'.1 hr; simp only [Bool.and_eq_true, Bool.or_eq_true, beq_iff_eq] at h1; have hle := oS e he h1.1; rcases h1.2 with h2 | h2
     · rw [← h2]; exact hle
     · exact xw hc n e.on h2 hle
 rcases Nat.lt_or_ge i aM.size with h' | h'
 · simp [h'] at Ep hi; rw [Ep] at hi
   cases hi
 · simp [Array.getElem?_eq_none h'] at Ep
def l9 (P : Program) (md : Region.Mode) (ops : Array Oper) (Q : Exit → Act → World → Prop) (ds : List Nat) : Nat → Array Bool → Act → World → Prop
 | 0, aM, a, w => Region.ready md ops aM = [] ∧ Q .normal a w
 | fuel + 1, aM, a, w =>
   (Region.ready md ops aM = [] → Q .normal a w) ∧
   ∀ i ∈ Region.ready md ops aM, wpOp P ops Q i (fun a' w' => (i ∉ ds → gu w w') ∧ l9 P md ops Q ds fuel (aM.setIfInBounds i true) a' w') a w
theorem vt : ∀ (fuel : Nat) (aM : Array Bool) (a : Act) (w : World), l9 P md ops Q ds fuel aM a w → wpAny P md ops Q fuel aM a w
 | 0, _, _, _, h => h
 | fuel + 1, _, _, _, h => ⟨h.1, fun i hi => wpOp_mono (fun a' w' h' => vt fuel _ a' w' h'.2) (h.2 i hi)⟩
theorem DG {i : Nat} {oi : Oper} {v : Value} {w0 : World} (hi : ops[i]? = some oi) (Fi : ∀ (j : Nat) (o : Oper) cs b, ops[j]? = some o → o.op ≠ .select cs b)
   (hQ : ∀ c a w, Q (.panic c) (a.put oi.dst v) w → Q (.panic c) a w) (n : Nat) :
   ∀ (fuel : Nat) (aM : Array Bool) (a : Act) (w : World),
     (∀ j oj, ops[j]? = some oj → j ≠ i → aM.getD j true = false → (∀ e ∈ oj.after, Region.binds md e = true → e.on ≠ i) → oi.apart ops oj = true) →
     qt md ops aM → (∀ d ∈ ds, aM.getD d true = false → qp md ops i n d = true) →
     i ∈ Region.ready md ops aM → YieldsIf P ops (gu w0) oi v a → gu w0 w →
     l9 P md ops Q ds fuel (aM.setIfInBounds i true) (a.put oi.dst v) w → l9 P md ops Q ds (fuel + 1) aM a w := by
 intro fuel
 induction fuel with
 | zero =>
   intro aM a w _ _ _ hr hy hS H; refine ⟨fun h => (by rw [h] at hr; cases hr), fun j hj => ?_⟩
   by_cases DH : j = i
   · subst DH; exact hy.wpOp hi hS ⟨fun _ => gu.refl w, H⟩
   · have := ready_mono hj DH; rw [H.1] at this
     cases this
 | succ fuel ih =>
   intro aM a w Av hc hd hr hy hS H; refine ⟨fun h => (by rw [h] at hr; cases hr), fun j hj => ?_⟩
   by_cases DH : j = i
   · subst DH; exact hy.wpOp hi hS ⟨fun _ => gu.refl w, H⟩
   · have h1 := H.2 j (ready_mono hj DH); obtain ⟨G6, oj, Ru, oS⟩ := mem_ready.1 hj; have JK := (mem_ready.1 hr).1; have JH : ∀ e ∈ oj.after, Region.binds md e = true → e.on ≠ i := fun e he hb heq => by
       have h1 := oS e he hb; rw [heq] at h1; rcases Nat.lt_or_ge i aM.size with h' | h'
       · simp [h'] at JK h1; rw [JK] at h1; cases h1
       · simp [Array.getElem?_eq_none h'] at h1
     have hjd : j ∉ ds := fun hm => zG hc (hd j hm G6) JK hj
     have h2 := wpOp_putIf Ru (Av j oj Ru DH G6 JH) (fun cs b => Fi i oi cs b hi) (fun cs b => Fi j oj cs b Ru) hQ hy h1; have G7 : ∀ k ok, ops[k]? = some ok → k ≠ i → (aM.setIfInBounds j true).getD k true = false →
         (∀ e ∈ ok.after, Region.binds md e = true → e.on ≠ i) → oi.apart ops ok = true := fun k ok hk Zq Ep Oz => by
       refine Av k ok hk Zq ?_ Oz
       by_cases Gq : j = k
       · subst Gq; exact G6
       · rw [getD_set_ne true Gq] at Ep; exact Ep
     have G1 : ∀ d ∈ ds, (aM.setIfInBounds j true).getD d true = false → qp md ops i n d = true := fun d hm Ep => by
       refine hd d hm ?_
       by_cases Gq : j = d
       · subst Gq; exact G6
       · rw [getD_set_ne true Gq] at Ep; exact Ep
     refine wpOp_mono (fun a' w' h3 => ⟨h3.2.1, ih (aM.setIfInBounds j true) a' w' G7 (hc.set hj) G1 (ready_mono hr (Ne.symm DH)) h3.1 (hS.trans (h3.2.1 hjd)) ?_⟩) h2; rw [Array.setIfInBounds_comm _ _ DH]; exact h3.2.2
theorem G8 {i : Nat} {oi : Oper} {v : Value} (hi : ops[i]? = some oi) (Fi : ∀ (j : Nat) (o : Oper) cs b, ops[j]? = some o → o.op ≠ .select cs b)
   (hQ : ∀ c a w, Q (.panic c) (a.put oi.dst v) w → Q (.panic c) a w) :
   ∀ (fuel : Nat) (aM : Array Bool) (a : Act) (w : World),
     (∀ j oj, ops[j]? = some oj → j ≠ i → aM.getD j true = false → (∀ e ∈ oj.after, Region.binds md e = true → e.on ≠ i) → oi.apart ops oj = true) →
     i ∈ Region.ready md ops aM → Yields P ops oi v a →
     l9 P md ops Q ds fuel (aM.setIfInBounds i true) (a.put oi.dst v) w → l9 P md ops Q ds (fuel + 1) aM a w := by
 intro fuel
 induction fuel with
 | zero =>
   intro aM a w _ hr hy H; refine ⟨fun h => (by rw [h] at hr; cases hr), fun j hj => ?_⟩
   by_cases DH : j = i
   · subst DH; exact (hy.yieldsIf (S := fun _ => True)).wpOp hi trivial ⟨fun _ => gu.refl w, H⟩
   · have := ready_mono hj DH; rw [H.1] at this
     cases this
 | succ fuel ih =>
   intro aM a w Av hr hy H; refine ⟨fun h => (by rw [h] at hr; cases hr), fun j hj => ?_⟩
   by_cases DH : j = i
   · subst DH; exact (hy.yieldsIf (S := fun _ => True)).wpOp hi trivial ⟨fun _ => gu.refl w, H⟩
   · have h1 := H.2 j (ready_mono hj DH); obtain ⟨G6, oj, Ru, oS⟩ := mem_ready.1 hj; have JK := (mem_ready.1 hr).1; have JH : ∀ e ∈ oj.after, Region.binds md e = true → e.on ≠ i := fun e he hb heq => by
       have h1 := oS e he hb; rw [heq] at h1; rcases Nat.lt_or_ge i aM.size with h' | h'
       · simp [h'] at JK h1; rw [JK] at h1; cases h1
       · simp [Array.getElem?_eq_none h'] at h1
     have h2 := wpOp_put Ru (Av j oj Ru DH G6 JH) (fun cs b => Fi i oi cs b hi) (fun cs b => Fi j oj cs b Ru) hQ hy h1; have G7 : ∀ k ok, ops[k]? = some ok → k ≠ i → (aM.setIfInBounds j true).getD k true = false →
         (∀ e ∈ ok.after, Region.binds md e = true → e.on ≠ i) → oi.apart ops ok = true := fun k ok hk Zq Ep Oz => by
       refine Av k ok hk Zq ?_ Oz
       by_cases Gq : j = k
       · subst Gq; exact G6
       · rw [getD_set_ne true Gq] at Ep; exact Ep
     refine wpOp_mono (fun a' w' h3 => ⟨h3.2.1, ih (aM.setIfInBounds j true) a' w' G7 (ready_mono hr (Ne.symm DH)) h3.1 ?_⟩) h2; rw [Array.setIfInBounds_comm _ _ DH]; exact h3.2.2
end
end Go.TM
namespace Go.TM
open Go Go.RowKit
def vM (i : Nat) : List Nat → Bool
 | [] => false
 | x :: l => Nat.beq x i || vM i l
def PW (ops : List Oper) (ls : List Nat) (j : Nat) : Bool :=
 match nth ops j with
 | some o => !vM j ls && o.after.toList.all fun e => !Region.binds .any e || vM e.on ls
 | none => false
def IP (ops : Array Oper) (Fj : List Oper) (n : Nat) (ls : List Nat) (i : Nat) : Bool :=
 match nth Fj i with
 | some oi => (List.range n).all fun j => Nat.beq j i || (vM j ls || match nth Fj j with
   | some oj => (oj.after.toList.any fun e => Region.binds .any e && Nat.beq e.on i) || oi.apart ops oj
   | none => true)
 | none => false
def DI (Fj : List Oper) (n : Nat) (ls : List Nat) (i : Nat) : Bool := (List.range n).all fun j => Nat.beq j i || !PW Fj ls j
def Pl.bM : Pl → List Nat
 | .nil => []
 | .op i _ _ => [i]
 | .alt p q => p.bM ++ q.bM
def L1 (Fj : List Oper) (n : Nat) (ls hs : List Nat) : Bool := (List.range n).all fun j => !PW Fj ls j || vM j hs
def jq (ops : Array Oper) (Fj : List Oper) (n : Nat) (ds : List Nat) : Bool → List Nat → Pl → Bool
 | al, ls, .nil => !al && (List.range n).all fun j => !PW Fj ls j
 | al, ls, .op i kd r => PW Fj ls i && ((match kd with
     | .any => !al && IP ops Fj n ls i
     | .take => !al && (IP ops Fj n ls i && ds.all fun d => vM d ls || qp .any ops i n d)
     | .one => al || DI Fj n ls i
     | .last => (al || DI Fj n ls i) && vM i ds) && jq ops Fj n ds false (i :: ls) r)
 | al, ls, .alt p q => (al || L1 Fj n ls (p.bM ++ q.bM)) && (jq ops Fj n ds true ls p && jq ops Fj n ds true ls q)
def CR : Pl → List Nat
 | .nil => []
 | .op i .last l => i :: CR l
 | .op _ _ l => CR l
 | .alt p q => CR p ++ CR q
def Pl.depth : Pl → Nat
 | .nil => 0
 | .op _ _ l => l.depth + 1
 | .alt p q => Nat.max p.depth q.depth
def AX (ops : Array Oper) (l : Pl) : Bool :=
 Region.noSelect ops && (Nat.ble l.depth ops.size && jq ops ops.toList ops.size (CR l) false [] l)
structure N9 (n : Nat) (ls : List Nat) (aM : Array Bool) : Prop where
 size : aM.size = n
 gf : ∀ j, aM.getD j false = vM j ls
 gt : ∀ j, aM.getD j true = (vM j ls || decide (n ≤ j))
theorem N9.push {n : Nat} {ls : List Nat} {aM : Array Bool} (h : N9 n ls aM) {i : Nat} (hi : i < n) : N9 n (i :: ls) (aM.setIfInBounds i true) where
 size := by simp [h.size]
 gf := fun j => by
   unfold vM
   by_cases e : i = j
   · subst e; have : Nat.beq i i = true := Nat.beq_refl i; rw [this]; simp [h.size, hi]
   · rw [getD_set_ne false e, h.gf j]; have : Nat.beq i j = false := by
       cases hq : Nat.beq i j
       · rfl
       · exact absurd (Nat.eq_of_beq_eq_true hq) e
     simp [this]
 gt := fun j => by
   unfold vM
   by_cases e : i = j
   · subst e; simp [h.size, hi]
   · rw [getD_set_ne true e, h.gt j]; have : Nat.beq i j = false := by
       cases hq : Nat.beq i j
       · rfl
       · exact absurd (Nat.eq_of_beq_eq_true hq) e
     simp [this]
theorem N9.none (n : Nat) : N9 n [] (Array.replicate n false) where
 size := by simp
 gf := fun j => by
   simp only [Array.getD_eq_getD_getElem?, Array.getElem?_replicate, vM]
   split <;> rfl
 gt := fun j => by
   simp only [Array.getD_eq_getD_getElem?, Array.getElem?_replicate, vM]
   split
   · rename_i h; simp; omega
   · rename_i h; simp; omega
theorem uO {ops : Array Oper} {ls : List Nat} {aM : Array Bool} (h : N9 ops.size ls aM) (j : Nat) : PW ops.toList ls j = true ↔ j ∈ Region.ready .any ops aM := by
 rw [mem_ready]; unfold PW; rw [fo, Array.getElem?_toList, h.gt j]
 cases ho : ops[j]? with
 | none => simp
 | some o =>
   have bQ : j < ops.size := (Array.getElem?_eq_some_iff.1 ho).1; have hn : decide (ops.size ≤ j) = false := by simp; omega
   simp only [hn, Bool.or_false, Bool.and_eq_true, Bool.not_eq_true', List.all_eq_true, Array.mem_toList_iff, Bool.or_eq_true, Option.some.injEq, exists_eq_left', h.gf]
   constructor
   · rintro ⟨h0, h1⟩
     exact ⟨h0, fun e he hb => (h1 e he).resolve_left (by simp [hb])⟩
   · rintro ⟨h0, h1⟩
     refine ⟨h0, fun e he => ?_⟩
     cases hb : Region.binds .any e
     · exact .inl rfl
     · exact .inr (h1 e he hb)
theorem JL {i j : Nat} (h : i ≠ j) : Nat.beq i j = false := by
 cases hq : Nat.beq i j
 · rfl
 · exact absurd (Nat.eq_of_beq_eq_true hq) h
theorem AY {ops : Array Oper} {ls : List Nat} {aM : Array Bool} (h : N9 ops.size ls aM) {i : Nat} {oi : Oper} (hi : ops[i]? = some oi) (hf : IP ops ops.toList ops.size ls i = true) :
   ∀ j oj, ops[j]? = some oj → j ≠ i → aM.getD j true = false → (∀ e ∈ oj.after, Region.binds .any e = true → e.on ≠ i) → oi.apart ops oj = true := by
 intro j oj hj DH Ep Oz; unfold IP at hf; rw [fo, Array.getElem?_toList, hi] at hf; have bQ : j < ops.size := (Array.getElem?_eq_some_iff.1 hj).1; have h1 := List.all_eq_true.1 hf j (List.mem_range.2 bQ); rw [fo, Array.getElem?_toList, hj, JL DH, Bool.false_or] at h1; rw [h.gt j, Bool.or_eq_false_iff] at Ep; rw [Ep.1, Bool.false_or, Bool.or_eq_true] at h1; rcases h1 with h1 | h1
 · obtain ⟨e, he, h2⟩ := List.any_eq_true.1 h1; rw [Bool.and_eq_true] at h2; exact absurd (Nat.eq_of_beq_eq_true h2.2) (Oz e (Array.mem_toList_iff.1 he) h2.1)
 · exact h1
theorem Fk {ops : Array Oper} {ls : List Nat} {aM : Array Bool} (h : N9 ops.size ls aM) {i : Nat} (hf : DI ops.toList ops.size ls i = true) : ∀ j ∈ Region.ready .any ops aM, j = i := by
 intro j hj; have bQ : j < ops.size := by
   obtain ⟨_, o, ho, _⟩ := mem_ready.1 hj; exact (Array.getElem?_eq_some_iff.1 ho).1
 have h1 := List.all_eq_true.1 hf j (List.mem_range.2 bQ); rw [(uO h j).2 hj, Bool.not_true, Bool.or_false] at h1; exact Nat.eq_of_beq_eq_true h1
theorem xx {P : Program} {T : jh} {S : hZ} {w0 : World} {mu : Mu} {c : Cz} {st aP : St} {a : Act} {w : World} {ops : Array Oper} {o : Oper} {C : World → Prop} (h : Rel w0 mu c st a w)
   (hd : ∀ k, o.dst = some k → k < a.tmps.size) (hv : (tj T S ops.toList st o).val = some aP)
   (base : (Gm T S st o).val = some aP → ∃ v, (∀ w' : World, C w' → (execOp a.eval o).run P w' = .ok (.value v) w') ∧ Rel w0 mu c aP (a.put o.dst v) w) :
   ∃ v, YieldsIf P ops C o v a ∧ Rel w0 mu c aP (a.put o.dst v) w := by
 unfold tj at hv; unfold YieldsIf Region.wanted
 cases hg : o.guard with
 | none =>
   simp only [hg] at hv ⊢; obtain ⟨v, h1, h2⟩ := base hv; exact ⟨v, .inl ⟨trivial, h1⟩, h2⟩
 | some p =>
   obtain ⟨j, want⟩ := p; simp only [hg] at hv ⊢
   cases hj : (nth ops.toList j).bind (·.dst) with
   | none => simp [hj, N.val] at hv
   | some d =>
     simp only [hj] at hv
     split at hv
     · rename_i b Ls; obtain ⟨h1, h2⟩ := uH h Ls; rw [Ax (ops := ops) hj h1 h2]; have yes : (Gm T S (TM.aT st (some d) (.one (.bool b))) o).val = some aP → ∃ v, (∀ w' : World, C w' → (execOp a.eval o).run P w' = .ok (.value v) w') ∧ Rel w0 mu c aP (a.put o.dst v) w := fun e => base (by rwa [uI st d Ls] at e)
       have no : (N.done (TM.aT (TM.aT st (some d) (.one (.bool b))) o.dst (.kX []))).val = some aP → Rel w0 mu c aP (a.put o.dst undef) w := by
         intro e; simp only [N.val, Option.some.injEq] at e; subst e; rw [uI st d Ls]; exact h.aT (uJ _ _ _) hd
       rcases tC hv with ⟨hb, wS⟩ | ⟨hb, wS⟩
       · subst hb
         cases want
         · exact ⟨undef, .inr ⟨rfl, rfl⟩, no wS⟩
         · obtain ⟨v, h3, h4⟩ := yes wS; exact ⟨v, .inl ⟨rfl, h3⟩, h4⟩
       · subst hb
         cases want
         · obtain ⟨v, h3, h4⟩ := yes wS; exact ⟨v, .inl ⟨rfl, h3⟩, h4⟩
         · exact ⟨undef, .inr ⟨rfl, rfl⟩, no wS⟩
     · rename_i Ls; simp only [N.val, Option.some.injEq] at hv; subst hv; rw [vp (ops := ops) hj (Ay h Ls)]; exact ⟨undef, .inr ⟨by cases want <;> rfl, rfl⟩, h.aT (uJ _ _ _) hd⟩
     · simp [N.val] at hv
theorem OK {P : Program} {T : jh} (hT : fi P T) {S : hZ} {w0 : World} {mu : Mu} {c : Cz} {st : St} {a : Act} {w : World} (h : Rel w0 mu c st a w) {o : Oper} (hk : kindOk S st o .take = true)
   {aP : St} (hv : (Gm T S st o).val = some aP) (hd : ∀ k, o.dst = some k → k < a.tmps.size) : ∃ v, (∀ w' : World, gu w w' → (execOp a.eval o).run P w' = .ok (.value v) w') ∧ Rel w0 mu c aP (a.put o.dst v) w := by
 unfold kindOk at hk; unfold Gm at hv
 cases ho : o.op with
 | load t x =>
   simp only [ho] at hv; obtain ⟨v, h1, h2⟩ := Ev hT h (a8 h x) hv hd; exact ⟨v, fun w' hw => by simp only [execOp, ho]; exact oQ (h1 w' hw), h2⟩
 | _ => simp [ho] at hk
theorem xy {i : Nat} : (l : List Nat) → vM i l = true → i ∈ l
 | [], h => by cases h
 | x :: l, h => by
   unfold vM at h; rw [Bool.or_eq_true] at h; rcases h with h | h
   · rw [Nat.eq_of_beq_eq_true h]; exact List.mem_cons_self
   · exact List.mem_cons_of_mem _ (xy l h)
theorem tS {R : Type} {P : Program} {T : jh} (hT : fi P T) (hE : uZ P T) {S : hZ} {w0 : World} {mu : Mu} {n : Nat} (BY : p8 P T S w0 mu n) {ops : Array Oper} {ds : List Nat} {Q : Exit → Act → World → Prop} (hQ : ∀ c a w, ¬ Q (.panic c) a w)
   {k : St → Option R} {r : R} (hk : Next w0 mu n r k (Q .normal)) (Rv : Region.noSelect ops = true) (s6 : vH n ops.toList = true) :
   (l : Pl) → (ls : List Nat) → (aM : Array Bool) → (fuel : Nat) → {c : Cz} → {st : St} → {a : Act} → {w : World} → N9 ops.size ls aM → qt .any ops aM → l.depth ≤ fuel →
     Rel w0 mu c st a w → a.tmps.size = n → mZ T S ops.toList l st k = some r →
     (jq ops ops.toList ops.size ds false ls l = true → l9 P .any ops Q ds fuel aM a w) ∧
     (jq ops ops.toList ops.size ds true ls l = true → ∃ Fl, fuel = Fl + 1 ∧ ∀ i ∈ l.bM, i ∈ Region.ready .any ops aM ∧ wpOp P ops Q i (fun a' w' => (i ∉ ds → gu w w') ∧ l9 P .any ops Q ds Fl (aM.setIfInBounds i true) a' w') a w)
 | .nil, ls, aM, fuel, c, st, a, w, hl, _, _, h, hn, hv => by
   refine ⟨fun hb => ?_, fun hb => by simp [jq] at hb⟩; unfold jq at hb; rw [Bool.and_eq_true] at hb; have hr : Region.ready .any ops aM = [] := by
     refine List.eq_nil_iff_forall_not_mem.2 fun j hj => ?_
     obtain ⟨_, o, ho, _⟩ := mem_ready.1 hj; have bQ : j < ops.size := (Array.getElem?_eq_some_iff.1 ho).1; have h1 := List.all_eq_true.1 hb.2 j (List.mem_range.2 bQ); rw [(uO hl j).2 hj] at h1
     cases h1
   have hq := hk h hn hv
   cases fuel with
   | zero => exact ⟨hr, hq⟩
   | succ fuel => exact ⟨fun _ => hq, fun i hi => by rw [hr] at hi; cases hi⟩
 | .op i kd l, ls, aM, 0, c, st, a, w, hl, _, hf, h, hn, hv => absurd hf (by simp [Pl.depth])
 | .op i kd l, ls, aM, fuel + 1, c, st, a, w, hl, hs, hf, h, hn, hv => by
   have hf : l.depth ≤ fuel := Nat.le_of_succ_le_succ hf; have first : ∀ al, jq ops ops.toList ops.size ds al ls (.op i kd l) = true → PW ops.toList ls i = true ∧ jq ops ops.toList ops.size ds false (i :: ls) l = true := by
     intro al hb; unfold jq at hb; rw [Bool.and_eq_true, Bool.and_eq_true] at hb; exact ⟨hb.1, hb.2.2⟩
   have step : PW ops.toList ls i = true → jq ops ops.toList ops.size ds false (i :: ls) l = true → (kd = .one ∨ i ∈ ds) → wpOp P ops Q i (fun a' w' => (i ∉ ds → gu w w') ∧ l9 P .any ops Q ds fuel (aM.setIfInBounds i true) a' w') a w := by
     intro Rw eC Zr; have PZ := (uO hl i).1 Rw; obtain ⟨_, o, IN, _⟩ := mem_ready.1 PZ; have bQ : i < ops.size := (Array.getElem?_eq_some_iff.1 IN).1; unfold mZ at hv; rw [fo, Array.getElem?_toList, IN] at hv; obtain ⟨Oa, hv⟩ := aD hv; rw [N.fold_eq] at hv; obtain ⟨aP, h1, h2⟩ := Option.bind_eq_some_iff.1 hv; have G1 : ∀ k, o.dst = some k → k < a.tmps.size := fun k hk => by rw [hn]; exact x7 s6 (by rw [Array.mem_toList_iff]; exact Array.mem_of_getElem? IN) k hk
     have next : ∀ {c' : Cz} {a' : Act} {w' : World}, Rel w0 mu c' aP a' w' → a'.tmps.size = n → l9 P .any ops Q ds fuel (aM.setIfInBounds i true) a' w' := fun hr Jj =>
       (tS hT hE BY hQ hk Rv s6 l (i :: ls) _ fuel (hl.push bQ) (hs.set PZ) hf hr Jj h2).1 eC
     have hko : kd = .one → kindOk S st o .one = true := fun e => by rw [e] at Oa; exact Oa
     unfold wpOp; rw [IN]; rcases EP BY h hn (fun k hk => by rw [← hn]; exact G1 k hk) h1 with ⟨hw, qk⟩ | ⟨hw, tL⟩
     · simp only [hw, if_true]; refine .inl (Oper.wp_mono (fun a' w' ⟨⟨c', hr, jB⟩, Oy⟩ => ⟨fun GJ => ?_, next hr (jB.trans hn)⟩) (qk Q)); rcases Zr with e | e
       · exact Oy (hko e)
       · exact absurd e GJ
     · simp only [hw, Bool.false_eq_true, if_false]; exact ⟨fun _ => gu.refl w, next tL ((oP _ _ _).trans hn)⟩
   refine ⟨fun hb => ?_, fun hb => ⟨fuel, rfl, fun j hj => ?_⟩⟩
   · obtain ⟨Rw, eC⟩ := first _ hb; have PZ := (uO hl i).1 Rw; unfold jq at hb; rw [Bool.and_eq_true, Bool.and_eq_true] at hb; obtain ⟨_, IQ, _⟩ := hb; have alone : DI ops.toList ops.size ls i = true → (kd = .one ∨ i ∈ ds) → l9 P .any ops Q ds (fuel + 1) aM a w := by
       intro hal Zr; refine ⟨fun e => absurd PZ (by rw [e]; exact List.not_mem_nil), fun j hj => ?_⟩; have := Fk hl hal j hj; subst this; exact step Rw eC Zr
     obtain ⟨_, o, IN, _⟩ := mem_ready.1 PZ; have bQ : i < ops.size := (Array.getElem?_eq_some_iff.1 IN).1; unfold mZ at hv; rw [fo, Array.getElem?_toList, IN] at hv; obtain ⟨Oa, hv⟩ := aD hv; rw [N.fold_eq] at hv; obtain ⟨aP, h1, h2⟩ := Option.bind_eq_some_iff.1 hv; have G1 : ∀ k, o.dst = some k → k < a.tmps.size := fun k hk => by rw [hn]; exact x7 s6 (by rw [Array.mem_toList_iff]; exact Array.mem_of_getElem? IN) k hk
     have next : ∀ {c' : Cz} {a' : Act} {w' : World}, Rel w0 mu c' aP a' w' → a'.tmps.size = n → l9 P .any ops Q ds fuel (aM.setIfInBounds i true) a' w' := fun hr Jj =>
       (tS hT hE BY hQ hk Rv s6 l (i :: ls) _ fuel (hl.push bQ) (hs.set PZ) hf hr Jj h2).1 eC
     have Fi := Region.noSelect_spec Rv
     cases kd with
     | one => exact alone (by simpa using IQ) (.inl rfl)
     | last =>
       simp only [Bool.false_or, Bool.and_eq_true] at IQ; exact alone IQ.1 (.inr (xy ds IQ.2))
     | any =>
       simp only [Bool.not_false, Bool.true_and] at IQ; obtain ⟨v, hy, tL⟩ := xx (P := P) (ops := ops) (C := fun _ => True) h G1 h1 (fun e => by
         obtain ⟨v, g1, g2⟩ := IA hT hE h Oa e G1; exact ⟨v, fun w' _ => g1 w', g2⟩)
       refine G8 IN Fi (fun c a w hq => absurd hq (hQ _ _ _)) fuel aM a w (AY hl IN IQ) PZ ?_ (next tL ((oP _ _ _).trans hn)); rcases hy with ⟨g1, g2⟩ | g
       · exact .inl ⟨g1, fun w' => g2 w' trivial⟩
       · exact .inr g
     | take =>
       simp only [Bool.not_false, Bool.true_and, Bool.and_eq_true] at IQ; obtain ⟨v, hy, tL⟩ := xx (P := P) (ops := ops) (C := gu w) h G1 h1 (fun e => OK hT h Oa e G1); refine DG IN Fi (fun c a w hq => absurd hq (hQ _ _ _)) ops.size fuel aM a w (AY hl IN IQ.1) hs (fun d hm Ep => ?_) PZ hy (gu.refl w) (next tL ((oP _ _ _).trans hn)); have h3 := List.all_eq_true.1 IQ.2 d hm; rw [hl.gt d, Bool.or_eq_false_iff] at Ep; rw [Ep.1, Bool.false_or] at h3; exact h3
   · have hj : j = i := by simpa [Pl.bM] using hj
     subst hj; obtain ⟨Rw, eC⟩ := first _ hb; refine ⟨(uO hl j).1 Rw, step Rw eC ?_⟩; unfold jq at hb; rw [Bool.and_eq_true, Bool.and_eq_true] at hb; obtain ⟨_, IQ, _⟩ := hb
     cases kd with
     | one => exact .inl rfl
     | last =>
       simp only [Bool.true_or, Bool.true_and] at IQ; exact .inr (xy ds IQ)
     | any => simp at IQ
     | take => simp at IQ
 | .alt p q, ls, aM, fuel, c, st, a, w, hl, hs, hf, h, hn, hv => by
   have hv : both (mZ T S ops.toList p st k) (mZ T S ops.toList q st k) = some r := hv; obtain ⟨wS, GX⟩ := Ja hv; have hf : Nat.max p.depth q.depth ≤ fuel := hf; have hp := (tS (ds := ds) hT hE BY hQ hk Rv s6 p ls aM fuel hl hs (Nat.le_trans (Nat.le_max_left _ _) hf) h hn wS).2; have hq := (tS (ds := ds) hT hE BY hQ hk Rv s6 q ls aM fuel hl hs (Nat.le_trans (Nat.le_max_right _ _) hf) h hn GX).2; have bM : jq ops ops.toList ops.size ds true ls p = true → jq ops ops.toList ops.size ds true ls q = true → ∃ Fl, fuel = Fl + 1 ∧ ∀ i ∈ p.bM ++ q.bM, i ∈ Region.ready .any ops aM ∧ wpOp P ops Q i (fun a' w' => (i ∉ ds → gu w w') ∧ l9 P .any ops Q ds Fl (aM.setIfInBounds i true) a' w') a w := by
     intro h1 h2; obtain ⟨f1, e1, g1⟩ := hp h1; obtain ⟨f2, e2, g2⟩ := hq h2; have : f1 = f2 := by omega
     subst this; exact ⟨f1, e1, fun i hi => (List.mem_append.1 hi).elim (g1 i) (g2 i)⟩
   have parts : ∀ al, jq ops ops.toList ops.size ds al ls (.alt p q) = true → (al || L1 ops.toList ops.size ls (p.bM ++ q.bM)) = true ∧ jq ops ops.toList ops.size ds true ls p = true ∧ jq ops ops.toList ops.size ds true ls q = true := by
     intro al hb; unfold jq at hb; rw [Bool.and_eq_true, Bool.and_eq_true] at hb; exact hb
   refine ⟨fun hb => ?_, fun hb => ?_⟩
   · obtain ⟨hc, h1, h2⟩ := parts _ hb; obtain ⟨f, rfl, g⟩ := bM h1 h2; have Zs : ∀ j ∈ Region.ready .any ops aM, j ∈ p.bM ++ q.bM := by
       intro j hj; have bQ : j < ops.size := by
         obtain ⟨_, o, ho, _⟩ := mem_ready.1 hj; exact (Array.getElem?_eq_some_iff.1 ho).1
       rw [Bool.false_or] at hc; have h1 := List.all_eq_true.1 hc j (List.mem_range.2 bQ); rw [(uO hl j).2 hj, Bool.not_true, Bool.false_or] at h1; exact xy _ h1
     refine ⟨fun e => ?_, fun j hj => (g j (Zs j hj)).2⟩; have fm : ∃ i, i ∈ p.bM ++ q.bM := by
       have key : ∀ (l : Pl), jq ops ops.toList ops.size ds true ls l = true → ∃ i, i ∈ l.bM := by
         intro l
         induction l with
         | nil => intro h; simp [jq] at h
         | op i _ _ _ => intro _; exact ⟨i, by simp [Pl.bM]⟩
         | alt p q ih _ =>
           intro h; unfold jq at h; rw [Bool.and_eq_true, Bool.and_eq_true] at h; obtain ⟨i, hi⟩ := ih h.2.1; exact ⟨i, List.mem_append_left _ hi⟩
       obtain ⟨i, hi⟩ := key p h1; exact ⟨i, List.mem_append_left _ hi⟩
     obtain ⟨i, hi⟩ := fm; have := (g i hi).1; rw [e] at this
     cases this
   · obtain ⟨_, h1, h2⟩ := parts _ hb; exact bM h1 h2
theorem qN {R : Type} {P : Program} {T : jh} (hT : fi P T) (hE : uZ P T) (hm : P.follows .mixedOrders = true) {S : hZ} {D : jj} {w0 : World} {mu : Mu} {n : Nat} (BY : p8 P T S w0 mu n) :
   oB R P T S D w0 mu n (fun id ops => AX ops (D id) = true) := by
 intro id ops Q k r fh s6 hk c st a w h hn hv; unfold AX at fh; rw [Bool.and_eq_true, Bool.and_eq_true] at fh; obtain ⟨Rv, hlen, hb⟩ := fh
 let Q' : Exit → Act → World → Prop := fun e a w => e = .normal ∧ Q .normal a w
 have key : (Code.region id ops true).wp P Q' a w := by
   refine wp_region_any hm (vt _ _ _ _ ((tS hT hE BY (ds := CR (D id)) (Q := Q') (fun c a w hq => by cases hq.1) (fun {c st a w} g1 g2 g3 => ⟨rfl, hk g1 g2 g3⟩) Rv s6 (D id) [] _ ops.size (N9.none _) (qt.none _ _ _) (Nat.le_of_ble_eq_true hlen) h.drew hn hv).1 hb))
 exact Code.wp_mono (fun e a w hq => by obtain ⟨rfl, hq⟩ := hq; exact hq) key
end Go.TM
namespace Go.TM
open Go Go.RowKit
abbrev OL : RT → Type → Type
 | .nil, R => R
 | .cons t r, R => den t → OL r R
abbrev nR {R : Type} : (r : RT) → OL r R → ak r → R
 | .nil, f, _ => f
 | .cons _ r, f, x => nR r (f x.1) x.2
def lL : jj := fun _ => .nil
def Ut {R : Type} : k9 R := fun _ _ _ _ => none
def L2 (f : Func) : Code := match f.body with | some c => c | none => .skip
def nn : Nat → List (Option AP)
 | 0 => []
 | n + 1 => none :: nn n
structure Rec where
 size : Nat
 agg : Bool
 bL : List (Nat × Nat)
 row : Option RT
 elem : Option (RT × Nat)
 kind : Option Ty
 jA : List Nat
 eq : Bool
 dp : Bool := false
 cap : Bool := false
inductive Tr where
 | leaf
 | node (l : Tr) (k : Nat) (v : Rec) (r : Tr)
def Tr.flat : Tr → Tr
 | .leaf => .leaf
 | .node l k v r => .node l.flat k { v with dp := false } r.flat
def Tr.uX (l : List Nat) : Tr → Tr
 | .leaf => .leaf
 | .node a k v b => .node (a.uX l) k { v with cap := l.any (Nat.beq k) } (b.uX l)
def Tr.find : Tr → Nat → Option Rec
 | .leaf, _ => none
 | .node l k v r, t => bif Nat.beq t k then some v else bif Nat.blt t k then l.find t else r.find t
def Tr.all (p : Nat → Rec → Bool) : Tr → Bool
 | .leaf => true
 | .node l k v r => l.all p && (p k v && r.all p)
theorem Tr.xz {p : Nat → Rec → Bool} : (tr : Tr) → tr.all p = true → ∀ {t v}, tr.find t = some v → p t v = true
 | .leaf, _, _, _, h => by cases h
 | .node l k v r, h, t, u, hf => by
   unfold Tr.all at h; rw [Bool.and_eq_true, Bool.and_eq_true] at h; unfold Tr.find at hf
   cases hb : Nat.beq t k with
   | true =>
     rw [hb] at hf; injection hf with hf; subst hf; rw [Nat.eq_of_beq_eq_true hb]; exact h.2.1
   | false =>
     rw [hb] at hf
     cases hl : Nat.blt t k with
     | true => rw [hl] at hf; exact Tr.xz l h.1 hf
     | false => rw [hl] at hf; exact Tr.xz r h.2.2 hf
def jO (tr : Tr) : jh where
 cells t := (tr.find t).map (·.size)
 agg t := match tr.find t with | some r => r.agg | none => false
 off t f := match tr.find t with | some r => (nth r.bL f).map (·.1) | none => none
 UN t f := match tr.find t with | some r => (nth r.bL f).map (·.2) | none => none
 row t := match tr.find t with | some r => r.row | none => none
 elem t := match tr.find t with | some r => r.elem | none => none
 kX _ := none
 kind t := match tr.find t with | some r => r.kind | none => none
 one t f := match tr.find t with | some r => r.jA.any (Nat.beq f) | none => false
 eq t := match tr.find t with | some r => r.eq | none => false
 dp t := match tr.find t with | some r => r.dp | none => false
 cap t := match tr.find t with | some r => r.cap | none => false
def kM : RT → List Value → Bool
 | .nil, [] => true
 | .cons (.int k) r, .int l n :: vs => decide (k = l) && decide (n = 0) && kM r vs
 | .cons .bool r, .bool b :: vs => !b && kM r vs
 | .cons .str r, .string s :: vs => (match s.data.toList with | [] => true | _ => false) && kM r vs
 | .cons (.sl _) r, .slice none 0 0 :: vs => kM r vs
 | _, _ => false
theorem qO : (r : RT) → (vs : List Value) → kM r vs = true → gJ r vs
 | .nil, [], _ => rfl
 | .nil, _ :: _, h => by simp [kM] at h
 | .cons t r, [], h => by cases t <;> simp [kM] at h
 | .cons t r, v :: vs, h => by
   cases t with
   | int k =>
     cases v <;> try (simp [kM] at h; done)
     rename_i l n; simp only [kM, Bool.and_eq_true, decide_eq_true_eq] at h; obtain ⟨⟨rfl, rfl⟩, h⟩ := h; exact ⟨vs, rfl, qO r vs h⟩
   | bool =>
     cases v <;> try (simp [kM] at h; done)
     rename_i b; simp only [kM, Bool.and_eq_true, Bool.not_eq_true'] at h; obtain ⟨rfl, h⟩ := h; exact ⟨vs, rfl, qO r vs h⟩
   | str =>
     cases v <;> try (simp [kM] at h; done)
     rename_i s; simp only [kM, Bool.and_eq_true] at h; obtain ⟨h1, h⟩ := h; refine ⟨vs, ?_, qO r vs h⟩; obtain ⟨d⟩ := s; obtain ⟨d⟩ := d
     cases d with
     | nil => rfl
     | cons _ _ => simp at h1
   | sl q =>
     cases v <;> try (simp [kM] at h; done)
     rename_i a n m
     cases a with
     | some _ => simp [kM] at h
     | none => cases n with
       | succ _ => simp [kM] at h
       | zero => cases m with
         | succ _ => simp [kM] at h
         | zero =>
           have h : kM r vs = true := h; exact ⟨vs, rfl, qO r vs h⟩
def qa {α : Type} (o : Option α) (p : α → Bool) : Bool := match o with | some x => p x | none => false
theorem eM {α : Type} {o : Option α} {p : α → Bool} (h : qa o p = true) : ∃ x, o = some x ∧ p x = true := by
 cases o with
 | none => cases h
 | some x => exact ⟨x, rfl, h⟩
def rL (P : Program) : List Field → List (Nat × Nat) → Bool
 | [], [] => true
 | f :: fs, (o, s) :: ps => Nat.beq f.offset o && (qa (P.info? f.type) (fun i => Nat.beq i.size s) && (Nat.blt 0 s && rL P fs ps))
 | _, _ => false
theorem vN {P : Program} : (fs : List Field) → (ps : List (Nat × Nat)) → rL P fs ps = true →
   fs.mapM (fun f => (P.info? f.type).map fun i => (f.offset, i.size)) = some ps ∧ ∀ (k : Nat) p, ps[k]? = some p → ∃ Cs n, fs[k]? = some Cs ∧ Cs.offset = p.1 ∧ (P.info? Cs.type).map (·.size) = some (n + 1)
 | [], [], _ => ⟨rfl, fun k p h => by simp at h⟩
 | [], _ :: _, h => by simp [rL] at h
 | _ :: _, [], h => by simp [rL] at h
 | f :: fs, (o, s) :: ps, h => by
   unfold rL at h; rw [Bool.and_eq_true, Bool.and_eq_true, Bool.and_eq_true] at h; obtain ⟨h1, h2, h3, h4⟩ := h; obtain ⟨i, hi, VO⟩ := eM h2; have h1 := Nat.eq_of_beq_eq_true h1; have VO := Nat.eq_of_beq_eq_true VO; obtain ⟨g1, g2⟩ := vN fs ps h4; refine ⟨by simp [List.mapM_cons, hi, g1, h1, VO], fun k p hp => ?_⟩
   cases k with
   | zero =>
     simp at hp; subst hp; have h3 : 0 < s := Nat.le_of_ble_eq_true h3; exact ⟨f, s - 1, rfl, h1, by rw [hi]; simp [VO]; omega⟩
   | succ k => exact g2 k p (by simpa using hp)
def Fm (P : Program) (t : Nat) : Ty → Bool
 | .int k => qa (P.underlying t) fun | .int l => decide (k = l) | _ => false
 | .bool => qa (P.underlying t) fun | .bool => true | _ => false
 | .str => qa (P.underlying t) fun | .string => true | _ => false
 | .sl _ => false
def DJ (P : Program) (t : Nat) (r : Rec) : Bool :=
 qa (P.info? t) (fun i => Nat.beq i.size r.size && (match r.row with | some q => qa i.zero (fun z => kM q z.cells.toList) | none => true)) &&
 (qa (P.underlying t) (fun d => (d.isRow == r.agg) && (bif r.agg then true else Nat.beq r.size 1) && (match d with | .struct fs => bif r.agg then rL P fs.toList r.bL else Nat.beq r.bL.length 0 | _ => !r.agg && Nat.beq r.bL.length 0)
     && (match r.elem with | some (q, b) => (match d with | .slice e => qa (P.info? e) (fun i => Nat.beq i.size q.width && (Nat.blt 0 q.width && (Nat.beq i.bytes b && (Nat.blt 0 b && qa i.zero (fun z => kM q z.cells.toList))))) | _ => false) | none => true)) &&
 ((match r.kind with | some k => Fm P t k | none => true) && (match r.elem with | some (.cons (.int .u8) .nil, _) => qa (P.underlying t) (fun d => match d with | .slice e => Fm P e (.int .u8) | _ => false) | _ => true)))
def P0 (P : Program) (t : Nat) (l : List Nat) : Bool := l.all fun f => qa (P.underlying t) fun d => match d with | .struct fs => qa fs[f]? (fun Cs => qa (P.underlying Cs.type) fun e => !e.isRow) | _ => false
def vu (P : Program) (t : Nat) (r : Rec) : Bool := DJ P t r && P0 P t r.jA
theorem iU {P : Program} {tr : Tr} (h : tr.all (vu P) = true) : fi P (jO tr) := by
 have VP : ∀ {t r}, tr.find t = some r → vu P t r = true := fun hf => Tr.xz tr h hf
 have get : ∀ {t r}, tr.find t = some r → DJ P t r = true := fun hf => (Bool.and_eq_true _ _ ▸ VP hf).1
 have base : ∀ {t r}, tr.find t = some r → (∃ i, P.info? t = some i ∧ i.size = r.size ∧ ∀ q, r.row = some q → ∃ z, i.zero = some z ∧ gJ q z.cells.toList) ∧
     (∃ d, P.underlying t = some d ∧ d.isRow = r.agg ∧ (r.agg = false → r.size = 1) ∧ (r.bL ≠ [] ∨ r.agg = true → ∃ fs, d = .struct fs ∧ rL P fs.toList r.bL = true) ∧
       ∀ q b, r.elem = some (q, b) → ∃ e i z, d = .slice e ∧ P.info? e = some i ∧ i.size = q.width ∧ 0 < q.width ∧ i.bytes = b ∧ 0 < b ∧ i.zero = some z ∧ gJ q z.cells.toList) ∧
     ∀ k, r.kind = some k → Fm P t k = true := by
   intro t r hf; have h1 := get hf; unfold DJ at h1; rw [Bool.and_eq_true, Bool.and_eq_true, Bool.and_eq_true] at h1; obtain ⟨h1, h2, h3, _⟩ := h1; obtain ⟨i, hi, h4⟩ := eM h1; rw [Bool.and_eq_true] at h4; obtain ⟨d, hd, h5⟩ := eM h2; rw [Bool.and_eq_true, Bool.and_eq_true, Bool.and_eq_true] at h5; obtain ⟨⟨⟨g1, g2⟩, g3⟩, g4⟩ := h5; refine ⟨⟨i, hi, Nat.eq_of_beq_eq_true h4.1, fun q hq => ?_⟩, ⟨d, hd, by simpa using g1, fun IK => ?_, fun fm => ?_, fun q b he => ?_⟩, fun k hk => ?_⟩
   · have h6 := h4.2; rw [hq] at h6; obtain ⟨z, hz, h7⟩ := eM h6; exact ⟨z, hz, qO q _ h7⟩
   · rw [IK] at g2; exact Nat.eq_of_beq_eq_true g2
   · cases IK : r.agg with
     | true =>
       rw [IK] at g3
       cases d with
       | struct fs => exact ⟨fs, rfl, g3⟩
       | _ => simp at g3
     | false =>
       rw [IK] at g3; rcases fm with fm | fm
       · have : Nat.beq r.bL.length 0 = true := by
           cases d with
           | struct fs => exact g3
           | _ => simpa using g3
         exact absurd (List.length_eq_zero_iff.1 (Nat.eq_of_beq_eq_true this)) fm
       · rw [IK] at fm; cases fm
   · rw [he] at g4
     cases d with
     | slice e =>
       obtain ⟨i, h6, h7⟩ := eM g4; rw [Bool.and_eq_true, Bool.and_eq_true, Bool.and_eq_true, Bool.and_eq_true] at h7; obtain ⟨k1, k2, k3, k4, k5⟩ := h7; obtain ⟨z, hz, h8⟩ := eM k5; exact ⟨e, i, z, rfl, h6, Nat.eq_of_beq_eq_true k1, Nat.le_of_ble_eq_true k2, Nat.eq_of_beq_eq_true k3, Nat.le_of_ble_eq_true k4, hz, qO q _ h8⟩
     | _ => cases g4
   · rw [hk] at h3; exact h3
 have look : ∀ {α : Type} {t : Nat} {g : Rec → Option α} {x : α}, (match tr.find t with | some r => g r | none => none) = some x → ∃ r, tr.find t = some r ∧ g r = some x := by
   intro α t g x hx
   cases hf : tr.find t with
   | none => rw [hf] at hx; cases hx
   | some r => rw [hf] at hx; exact ⟨r, rfl, hx⟩
 have VQ : ∀ {t : Nat} {g : Rec → Bool}, (match tr.find t with | some r => g r | none => false) = true → ∃ r, tr.find t = some r ∧ g r = true := by
   intro t g hx
   cases hf : tr.find t with
   | none => rw [hf] at hx; cases hx
   | some r => rw [hf] at hx; exact ⟨r, rfl, hx⟩
 exact {
   cells := fun t n ht => by
     obtain ⟨r, hf, rfl⟩ := Option.map_eq_some_iff.1 ht; obtain ⟨⟨i, hi, hs, _⟩, _⟩ := base hf; rw [hi]; simp [hs]
   agg := fun t n ht => by
     obtain ⟨r, hf, rfl⟩ := Option.map_eq_some_iff.1 ht; obtain ⟨_, ⟨d, hd, h1, h2, _⟩, _⟩ := base hf; have e : (jO tr).agg t = r.agg := by show (match tr.find t with | some r => r.agg | none => false) = _; rw [hf]
     exact ⟨d, hd, h1.trans e.symm, fun h => h2 (e ▸ h)⟩
   off := fun t f k ht => by
     obtain ⟨r, hf, hk⟩ := look ht; obtain ⟨p, hp, rfl⟩ := Option.map_eq_some_iff.1 hk; obtain ⟨_, ⟨d, hd, _, _, h3, _⟩, _⟩ := base hf; rw [fo] at hp; obtain ⟨fs, rfl, Zt⟩ := h3 (.inl (by intro e; rw [e] at hp; simp at hp)); obtain ⟨Cs, n, g1, g2, g3⟩ := (vN fs.toList r.bL Zt).2 f p hp; exact ⟨fs, Cs, n, hd, by simpa using g1, g2, g3⟩
   bld := fun t ht => by
     obtain ⟨r, hf, IK⟩ := VQ (g := fun r => r.agg) ht; obtain ⟨_, ⟨d, hd, _, _, h3, _⟩, _⟩ := base hf; obtain ⟨fs, rfl, Zt⟩ := h3 (.inr IK); refine ⟨fs, r.bL, hd, (vN fs.toList r.bL Zt).1, fun f o s ho hs => ?_⟩; have ho : (match tr.find t with | some r => (nth r.bL f).map (·.1) | none => none) = some o := ho; have hs : (match tr.find t with | some r => (nth r.bL f).map (·.2) | none => none) = some s := hs; rw [hf] at ho hs; obtain ⟨p, hp, rfl⟩ := Option.map_eq_some_iff.1 ho; obtain ⟨p', jn, rfl⟩ := Option.map_eq_some_iff.1 hs; rw [hp] at jn; injection jn with e; subst e; rw [fo] at hp; exact hp
   row := fun t q ht => by
     obtain ⟨r, hf, hk⟩ := look (g := fun r => r.row) ht; obtain ⟨⟨i, hi, _, h1⟩, _⟩ := base hf; obtain ⟨z, hz, Jl⟩ := h1 q hk; exact ⟨i, z, hi, hz, Jl⟩
   elem := fun t q b ht => by
     obtain ⟨r, hf, hk⟩ := look (g := fun r => r.elem) ht; obtain ⟨_, ⟨d, hd, _, _, _, h4⟩, _⟩ := base hf; obtain ⟨e, i, z, rfl, h5⟩ := h4 q b hk; exact ⟨e, i, z, hd, h5⟩
   u8 := fun t e b ht hu => by
     obtain ⟨r, hf, hk⟩ := look (g := fun r => r.elem) ht; have h1 := get hf; unfold DJ at h1; rw [Bool.and_eq_true, Bool.and_eq_true, Bool.and_eq_true] at h1; have h2 := h1.2.2.2; rw [hk] at h2; obtain ⟨d, hd, h3⟩ := eM h2; rw [hu] at hd; injection hd with hd; subst hd; obtain ⟨d2, hd2, h4⟩ := eM h3; rw [hd2]
     cases d2 <;> simp at h4
     rw [← h4]
   one := fun t f ht => by
     have ht : (match tr.find t with | some r => r.jA.any (Nat.beq f) | none => false) = true := ht
     cases hf : tr.find t with
     | none => rw [hf] at ht; cases ht
     | some r =>
       rw [hf] at ht; have h2 : P0 P t r.jA = true := (Bool.and_eq_true _ _ ▸ VP hf).2; obtain ⟨g, hg, hb⟩ := List.any_eq_true.1 ht; have hb := Nat.eq_of_beq_eq_true hb; subst hb; have h3 := List.all_eq_true.1 h2 f hg; obtain ⟨d, hd, h4⟩ := eM h3
       cases d with
       | struct fs =>
         obtain ⟨Cs, Zu, h5⟩ := eM h4; obtain ⟨e, he, h6⟩ := eM h5; exact ⟨fs, Cs, e, hd, Zu, he, by simpa using h6⟩
       | _ => cases h4
   kind := fun t y ht => by
     obtain ⟨r, hf, hk⟩ := look (g := fun r => r.kind) ht; have h1 := (base hf).2.2 y hk
     cases y with
     | int k =>
       obtain ⟨d, hd, h2⟩ := eM h1; refine ⟨d, hd, ?_⟩
       cases d <;> simp at h2
       rw [h2]; rfl
     | bool =>
       obtain ⟨d, hd, h2⟩ := eM h1; refine ⟨d, hd, ?_⟩
       cases d <;> simp at h2
       rfl
     | str =>
       obtain ⟨d, hd, h2⟩ := eM h1; refine ⟨d, hd, ?_⟩
       cases d <;> simp at h2
       rfl
     | sl _ => cases h1 }
end Go.TM
namespace Go.TM
open Go Go.RowKit
def cJ : Code → List (Nat × Code)
 | .seq a b => cJ a ++ cJ b
 | .cond _ a b => cJ a ++ cJ b
 | .block id (.loop b) => [(id, b)]
 | .block _ a => cJ a
 | _ => []
theorem n4 {ok : Nat → Code → Prop} : (c : Code) → (∀ p ∈ cJ c, ok p.1 p.2) → cX ok c := by
 intro c
 induction c with
 | seq a b Rx Ry =>
   intro h; unfold cJ at h; exact ⟨Rx fun p hp => h p (List.mem_append_left _ hp), Ry fun p hp => h p (List.mem_append_right _ hp)⟩
 | cond x a b Rx Ry =>
   intro h; unfold cJ at h; exact ⟨Rx fun p hp => h p (List.mem_append_left _ hp), Ry fun p hp => h p (List.mem_append_right _ hp)⟩
 | block id a ih =>
   intro h
   by_cases hb : ∃ b', a = .loop b'
   · obtain ⟨b', rfl⟩ := hb; exact h (id, b') (by unfold cJ; exact List.mem_cons_self)
   · cases a with
     | loop b' => exact absurd ⟨b', rfl⟩ hb
     | _ => unfold cJ at h; unfold cX; exact ih h
 | _ => intro _; unfold cX; trivial
def IS (c : Code) (i : Nat) : Code := match nth (cJ c) i with | some p => p.2 | none => .skip
def gR (D : jj) : Code → Bool
 | .region id ops true => AX ops (D id)
 | .seq a b => gR D a && gR D b
 | .cond _ a b => gR D a && gR D b
 | .block _ (.loop _) => true
 | .block _ a => gR D a
 | _ => true
theorem qb {D : jj} : (c : Code) → gR D c = true → dy (fun id ops => AX ops (D id) = true) c := by
 intro c
 induction c with
 | region id ops dr =>
   intro h
   cases dr with
   | true => exact h
   | false => unfold dy; trivial
 | seq a b Rx Ry =>
   intro h; unfold gR at h; rw [Bool.and_eq_true] at h; exact ⟨Rx h.1, Ry h.2⟩
 | cond x a b Rx Ry =>
   intro h; unfold gR at h; rw [Bool.and_eq_true] at h; exact ⟨Rx h.1, Ry h.2⟩
 | block id a ih =>
   intro h
   by_cases hb : ∃ b', a = .loop b'
   · obtain ⟨b', rfl⟩ := hb; unfold dy; trivial
   · cases a with
     | loop b' => exact absurd ⟨b', rfl⟩ hb
     | _ => unfold gR at h; unfold dy; exact ih h
 | _ => intro _; unfold dy; trivial
def Src.same : Src → Src → Bool
 | .tmp a, .tmp b => Nat.beq a b
 | .cell a, .cell b => Nat.beq a b
 | .ptr a, .ptr b => Nat.beq a b
 | _, _ => false
theorem Src.xA : {a b : Src} → a.same b = true → a = b
 | .tmp _, .tmp _, h => congrArg Src.tmp (Nat.eq_of_beq_eq_true h)
 | .cell _, .cell _, h => congrArg Src.cell (Nat.eq_of_beq_eq_true h)
 | .ptr _, .ptr _, h => congrArg Src.ptr (Nat.eq_of_beq_eq_true h)
 | .tmp _, .cell _, h => by cases h
 | .tmp _, .ptr _, h => by cases h
 | .cell _, .tmp _, h => by cases h
 | .cell _, .ptr _, h => by cases h
 | .ptr _, .tmp _, h => by cases h
 | .ptr _, .cell _, h => by cases h
def Fo (T : jh) : List ResultVar → List RP → Bool
 | [], [] => true
 | .tmp t :: vs, r :: rs => (r.src.same (.tmp t) || r.src.same (.ptr t)) && Fo T vs rs
 | .cell t ty :: vs, r :: rs => r.src.same (.cell t) && ((match T.cells ty with | some n => Nat.beq n r.ps.length | none => false) && ((T.agg ty == r.agg) && Fo T vs rs))
 | _, _ => false
theorem uP {T : jh} (tm : Array Value) : (vs : List ResultVar) → (rs : List RP) → Fo T vs rs = true → vL T tm vs rs
 | [], [], _ => trivial
 | [], _ :: _, h => by simp [Fo] at h
 | v :: _, [], h => by cases v <;> simp [Fo] at h
 | .tmp t :: vs, r :: rs, h => by
   unfold Fo at h; rw [Bool.and_eq_true, Bool.or_eq_true] at h; exact ⟨h.1.imp Src.xA Src.xA, uP tm vs rs h.2⟩
 | .cell t ty :: vs, r :: rs, h => by
   unfold Fo at h; rw [Bool.and_eq_true, Bool.and_eq_true, Bool.and_eq_true] at h; obtain ⟨h1, h2, h3, h4⟩ := h; refine ⟨⟨Src.xA h1, ?_, by simpa using h3⟩, uP tm vs rs h4⟩
   cases hc : T.cells ty with
   | none => rw [hc] at h2; cases h2
   | some n => rw [hc] at h2; rw [Nat.eq_of_beq_eq_true h2]
abbrev Rz := List (Nat × (Pm × Pm × Pm × tg))
def vO : Rz → hZ
 | [], _ => none
 | (g, s) :: l, f => bif Nat.beq f g then some s else vO l f
structure nS (P : Program) (f : FuncId) (yE : tg) : Prop where
 ok : FnOk P f yE
 fn : ∃ fn, P.funcs[f]? = some fn ∧ (fn.name == "runtime.NumGoroutine") = false ∧ fn.body.isNone = false
theorem L3 {P : Program} : kC P (vO []) := fun f a b c yE h => by cases h
theorem JM {P : Program} {g : Nat} {a b c : Pm} {yE : tg} {l : Rz} (hk : nS P g yE) (hl : kC P (vO l)) : kC P (vO ((g, (a, b, c, yE)) :: l)) := by
 intro f a' b' c' Zv h; unfold vO at h
 cases hb : Nat.beq f g with
 | true =>
   rw [hb] at h; injection h with h; injection h with _ h; injection h with _ h; injection h with _ h; subst h; rw [Nat.eq_of_beq_eq_true hb]; exact ⟨hk.ok, hk.fn⟩
 | false => rw [hb] at h; exact hl f a' b' c' Zv h
def P1 (T : jh) (D : jj) (fn : Func) (code : Code) (n : Nat) (ps : List AP) (rs : List RP) : Bool :=
 Nat.beq fn.ntmps n && (Nat.ble ps.length n && (eE n code && (Fo T fn.results.toList rs && gR D code)))
theorem OM {P : Program} {tr : Tr} (hT : tr.all (vu P) = true) (hE : uZ P (jO tr)) (hm : P.follows .mixedOrders = true) {S : hZ} (hS : kC P S) {D : jj} {f : FuncId} {fn : Func} {code : Code} {n : Nat} {ps : List AP} {rs : List RP}
   {L : k9 (ak (bR rs (bd ps)))} {t : ak (ar (ps.map some)) → Option (ak (bR rs (bd ps)))}
   (hf : P.funcs[f]? = some fn) (hb : fn.body = some code) (m8 : P1 (jO tr) D fn code n ps rs = true) (Fp : (fn.name == "runtime.NumGoroutine") = false)
   (hL : ∀ (w0 : World) (mu : Mu) (y : ak (bR rs (bd ps))), kj ps mu → ∀ p ∈ cJ code, ku P w0 mu n L y p.1 p.2)
   (G4 : ∀ x, dx (jO tr) S D L code (start n ps x) (xu rs ps) = t x) : nS P f (j4 ps rs t) := by
 unfold P1 at m8; rw [Bool.and_eq_true, Bool.and_eq_true, Bool.and_eq_true, Bool.and_eq_true] at m8; obtain ⟨h1, h2, h3, h4, h5⟩ := m8; refine ⟨VL (iU hT) hE hS hf hb (Nat.eq_of_beq_eq_true h1) (Nat.le_of_ble_eq_true h2) h3 (fun tm => uP tm _ _ h4) (fun w0 mu y hs => n4 code (hL w0 mu y hs))
   (fun w0 mu => qN (iU hT) hE hm (nY (iU hT) hE hS w0 mu n)) (qb code h5) G4, fn, hf, Fp, by rw [hb]; rfl⟩
def CS (D : jj) (ps : List AP) (hp e0 e1 : List (Option AP)) (n : Nat) (b : Code) : Bool :=
 (fq ps hp && (fq ps e0 && fq ps e1)) && (eE n b && gR D b)
theorem JN {R : Type} {P : Program} {tr : Tr} (hT : tr.all (vu P) = true) (hE : uZ P (jO tr)) (hm : P.follows .mixedOrders = true) {S : hZ} (hS : kC P S) {D : jj} {n id : Nat} {w0 : World} {mu : Mu} {ps : List AP} {hp e0 e1 : List (Option AP)} {b : Code} {r : R} {L : k9 R}
   {L' : k9 (Sum (ak (ar hp)) (Sum (ak (ar e0)) (ak (ar e1))))} {round : ak (ar hp) → Option (Sum (ak (ar hp)) (Sum (ak (ar e0)) (ak (ar e1))))}
   (hs : kj ps mu) (m8 : CS D ps hp e0 e1 n b = true)
   (Am : ∀ z, ∀ p ∈ cJ b, ku P w0 mu n L' z p.1 p.2) (G5 : ∀ x, dx (jO tr) S D L' b (l8 hp x) (yo id hp e0 e1) = round x) (hL : ∀ st k, L id b st k = yp hp e0 e1 round st k) : ku P w0 mu n L r id b := by
 unfold CS at m8; rw [Bool.and_eq_true, Bool.and_eq_true (eE n b)] at m8; exact OJ (nY (iU hT) hE hS w0 mu n) (qN (iU hT) hE hm (nY (iU hT) hE hS w0 mu n)) hs m8.1 m8.2.1 (qb b m8.2.2) (fun z => n4 b (Am z)) G5 hL
def cq {A B C : Type} (o : Option (Sum A B)) (f : A → Option C) (g : B → Option C) : Option C :=
 o.bind fun z => match z with
   | .inl y => f y
   | .inr y => g y
end Go.TM
