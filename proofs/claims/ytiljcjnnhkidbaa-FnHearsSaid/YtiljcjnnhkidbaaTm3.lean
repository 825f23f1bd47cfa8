/- A machine over trees: an evaluator of the code, and that what it finds is so; part 3. -/
import Derived.Test.YtiljcjnnhkidbaaTm2
import Derived.Laws.Sem
import Derived.Deep.LoopGhost
import Derived.OrdersHeld
import Derived.KernelRfl
namespace Go.TM
open Go Go.RowKit
def tK (st : St) (n : Nat × Nat) : Prop := ∃ g A, aQ st n.1 n.2 g = some A ∧ A.md.C3 = false
theorem Jh {st : St} {own : Bool} {x : CV} {o : OV} {u : Option Lb} {r : List (Nat × Nat)} (h : eU st own x = some (o, u, r)) : (∀ s j, u = some (.sp s j) → tK st (s, j)) ∧ ∀ p ∈ r, tK st p := by
 cases x with
 | ref a j g w =>
   unfold eU at h; simp only at h
   cases hA : aQ st a j g with
   | none => simp [hA] at h
   | some A =>
     simp only [hA] at h
     cases hm : A.md.C3 with
     | true => simp [hm] at h
     | false =>
     have uV := hm; simp only [hm, cond_false] at h
     cases hb : (own && A.own && (A.md.is .sh || w.isFull)) <;> simp only [hb, cond_true, cond_false, Option.some.injEq, Prod.mk.injEq] at h <;> obtain ⟨_, rfl, rfl⟩ := h
     · exact ⟨by simp, fun p hp => by simp at hp; subst hp; exact ⟨g, A, hA, uV⟩⟩
     · refine ⟨fun s k e => ?_, by simp⟩; simp only [Option.some.injEq, Lb.sp.injEq] at e; obtain ⟨rfl, rfl⟩ := e; exact ⟨g, A, hA, uV⟩
 | mW a j g e i k q ys =>
   unfold eU at h; simp only at h
   cases hA : aQ st a j g with
   | none => simp [hA] at h
   | some A =>
     simp only [hA] at h; obtain ⟨h1, h⟩ := aD h; rw [Bool.and_eq_true] at h1; have hm := Md.kh.1 h1.1; simp only [Option.some.injEq, Prod.mk.injEq] at h; obtain ⟨_, rfl, rfl⟩ := h; exact ⟨by simp, fun p hp => by simp at hp; subst hp; exact ⟨g, A, hA, by rw [hm]; rfl⟩⟩
 | j6 q y off => obtain ⟨_, rfl, rfl⟩ := tF h; simp
 | ql q y off => obtain ⟨_, rfl, rfl⟩ := qJ h; simp
 | _ => simp [eU] at h <;> (try (obtain ⟨_, rfl, rfl⟩ := h; simp))
theorem qM {st : St} {own : Bool} : (cs : List CV) → {os : List OV} → {u : List (Option Lb)} → {r : List (Nat × Nat)} → ee st own cs = some (os, u, r) → (∀ s j, .sp s j ∈ bt u → tK st (s, j)) ∧ ∀ p ∈ r, tK st p
 | [], _, _, _, h => by
   simp only [ee, Option.some.injEq, Prod.mk.injEq] at h; obtain ⟨_, rfl, rfl⟩ := h; simp [bt]
 | x :: cs, os, u, r, h => by
   unfold ee at h
   cases hc : eU st own x with
   | none => simp [hc] at h
   | some p =>
     obtain ⟨o, u1, r1⟩ := p
     cases hq : ee st own cs with
     | none => simp [hc, hq] at h
     | some q =>
       obtain ⟨xd, us, rs⟩ := q; simp only [hc, hq, Option.some.injEq, Prod.mk.injEq] at h; obtain ⟨_, rfl, rfl⟩ := h; obtain ⟨a1, a2⟩ := Jh hc; obtain ⟨b1, b2⟩ := qM cs hq; refine ⟨fun s j hm => ?_, fun p hp => ?_⟩
       · rw [fC] at hm; rcases List.mem_cons.1 hm with hm | hm
         · exact a1 s j hm.symm
         · exact b1 s j (fC.2 hm)
       · rcases List.mem_append.1 hp with hp | hp
         · exact a2 p hp
         · exact b2 p hp
theorem EH {st : St} {m : Pm} {v : V} {av : AV} {u q : List Lb} {r : List (Nat × Nat)} (h : dC st m v = some (av, u, q, r)) : (∀ s j, .sp s j ∈ u → tK st (s, j)) ∧ ∀ p ∈ r, tK st p := by
 have single : ∀ own cs ag, (match ee st own cs with | some (os, u, r) => some (AV.val ag os, bt u, bt u, r) | none => none) = some (av, u, q, r) → (∀ s j, .sp s j ∈ u → tK st (s, j)) ∧ ∀ p ∈ r, tK st p := by
   intro own cs ag h
   cases hq : ee st own cs with
   | none => simp [hq] at h
   | some p =>
     obtain ⟨os, us, rs⟩ := p; simp only [hq, Option.some.injEq, Prod.mk.injEq] at h; obtain ⟨_, rfl, rfl, rfl⟩ := h; exact qM cs hq
 cases v with
 | kV _ => simp [dC] at h
 | agg cs =>
   unfold dC at h
   cases m with
   | shr => exact single _ _ _ h
   | own => exact single _ _ _ h
   | pick _ => exact single _ _ _ h
   | io => exact single _ _ _ h
   | bo =>
     simp only at h
     cases hq : ee st true cs with
     | none => simp [hq] at h
     | some p =>
       obtain ⟨os, us, rs⟩ := p; simp only [hq] at h; obtain ⟨_, h1⟩ := aD h; simp only [Option.some.injEq, Prod.mk.injEq] at h1; obtain ⟨_, rfl, _, rfl⟩ := h1; exact qM cs hq
 | one cx =>
   cases cx with
   | ptr b g off =>
     unfold dC at h; simp only at h
     cases hb : cX st b g with
     | none => simp [hb] at h
     | some cs =>
       simp only [hb] at h
       cases hq : ee st true cs with
       | none => simp [hq] at h
       | some p =>
         obtain ⟨os, us, rs⟩ := p; simp only [hq] at h; obtain ⟨_, h1⟩ := aD h; simp only [Option.some.injEq, Prod.mk.injEq] at h1; obtain ⟨_, rfl, rfl, rfl⟩ := h1; obtain ⟨a1, a2⟩ := qM cs hq; refine ⟨fun s j hm => ?_, a2⟩; rcases List.mem_cons.1 hm with hm | hm
         · cases hm
         · exact a1 s j hm
   | ref s j g vw =>
     unfold dC at h
     cases m with
     | shr => exact single _ _ _ h
     | own => exact single _ _ _ h
     | pick _ => exact single _ _ _ h
     | bo => exact single _ _ _ h
     | io =>
       cases vw with
       | full =>
         cases hA : aQ st s j g with
         | none => simp [hA] at h
         | some A =>
           simp only [hA] at h; obtain ⟨hb, h1⟩ := aD h; simp only [Option.some.injEq, Prod.mk.injEq] at h1; obtain ⟨_, rfl, _, rfl⟩ := h1; refine ⟨fun s' j' hm => ?_, by simp⟩; simp at hm; obtain ⟨rfl, rfl⟩ := hm; rw [Bool.and_eq_true] at hb; exact ⟨g, A, hA, by cases hh : A.md.C3 <;> simp_all⟩
       | «from» _ => simp at h
       | sub _ _ => simp at h
   | _ =>
     unfold dC at h; simp only at h
     split at h
     · rename_i os us rs hq; simp only [Option.some.injEq, Prod.mk.injEq] at h; obtain ⟨_, rfl, _, rfl⟩ := h; exact qM _ hq
     · cases h
theorem yQ {st : St} : (ms : List (Pm × V)) → {cN : List AV} → {u q : List Lb} → {r : List (Nat × Nat)} → gq st ms = some (cN, u, q, r) → (∀ s j, .sp s j ∈ u → tK st (s, j)) ∧ ∀ p ∈ r, tK st p
 | [], _, _, _, _, h => by
   simp only [gq, Option.some.injEq, Prod.mk.injEq] at h; obtain ⟨_, rfl, _, rfl⟩ := h; simp
 | (m, v) :: ms, cN, u, q, r, h => by
   unfold gq at h
   cases h1 : dC st m v with
   | none => simp [h1] at h
   | some p1 =>
     obtain ⟨av, u1, q1, r1⟩ := p1
     cases h2 : gq st ms with
     | none => simp [h1, h2] at h
     | some p2 =>
       obtain ⟨NN, u2, q2, r2⟩ := p2; simp only [h1, h2, Option.some.injEq, Prod.mk.injEq] at h; obtain ⟨_, rfl, _, rfl⟩ := h; obtain ⟨a1, a2⟩ := EH h1; obtain ⟨b1, b2⟩ := yQ ms h2; refine ⟨fun s j hm => ?_, fun p hp => ?_⟩
       · rcases List.mem_append.1 hm with hm | hm
         · exact a1 s j hm
         · exact b1 s j hm
       · rcases List.mem_append.1 hp with hp | hp
         · exact a2 p hp
         · exact b2 p hp
theorem zH : {l : List Nat} → C7 l = true → ∀ {a b : Nat} {x y : Nat}, l[a]? = some x → l[b]? = some y → a < b → x < y
 | [], _, a, b, x, y, h, _, _ => by simp at h
 | [z], _, a, b, x, y, h1, h2, hab => by
   have : b = 0 := by
     have := (List.getElem?_eq_some_iff.1 h2).1; simpa using this
   omega
 | z :: z' :: l, h, a, b, x, y, h1, h2, hab => by
   simp only [C7, Bool.and_eq_true] at h; have hz : z < z' := by have := h.1; simp [Nat.blt] at this; omega
   cases b with
   | zero => omega
   | succ b =>
     cases a with
     | succ a => exact zH h.2 (by simpa using h1) (by simpa using h2) (by omega)
     | zero =>
       simp at h1; subst h1
       cases b with
       | zero => simp at h2; omega
       | succ b =>
         have := zH (a := 0) (b := b + 1) h.2 rfl (by simpa using h2) (by omega); omega
theorem KV {l : List Nat} (h : C7 l = true) {a b x : Nat} (h1 : l[a]? = some x) (h2 : l[b]? = some x) : a = b := by
 rcases Nat.lt_trichotomy a b with h3 | h3 | h3
 · have := zH h h1 h2 h3; omega
 · exact h3
 · have := zH h h2 h1 h3; omega
theorem Ay {k : Nat} : (n : Nat) → (l : List Dr) → (∃ y ∈ l, y.k = k) → ∃ i y, posOf k n l = n + i ∧ l[i]? = some y ∧ y.k = k
 | n, [], h => by obtain ⟨y, hy, _⟩ := h; cases hy
 | n, x :: l, h => by
   unfold posOf
   cases hb : Nat.beq x.k k with
   | true => exact ⟨0, x, rfl, rfl, Nat.eq_of_beq_eq_true hb⟩
   | false =>
     have fk : x.k ≠ k := by intro e; rw [e, Nat.beq_refl] at hb; cases hb
     obtain ⟨y, hy, e⟩ := h; rcases List.mem_cons.1 hy with rfl | hy
     · exact absurd e fk
     · obtain ⟨i, y', h1, h2, h3⟩ := Ay (n + 1) l ⟨y, hy, e⟩; exact ⟨i + 1, y', by rw [cond_false, h1]; omega, by simpa using h2, h3⟩
theorem EI {l : List Dr} (hi : C7 (l.map (·.k)) = true) {i : Nat} {y : Dr} (h : l[i]? = some y) : posOf y.k 0 l = i := by
 obtain ⟨i', y', h1, h2, h3⟩ := Ay (k := y.k) 0 l ⟨y, List.mem_of_getElem? h, rfl⟩; rw [h1, Nat.zero_add]; exact KV hi (x := y.k) (by rw [List.getElem?_map, h2]; simp [h3]) (by rw [List.getElem?_map, h]; rfl)
def Dr.cv (y : Dr) : CV := .mW y.a y.j y.g y.e y.i y.k y.q y.ys
theorem rG {y : Dr} : {cs : List CV} → y ∈ vA cs → y.cv ∈ cs
 | [], h => by simp [vA] at h
 | c :: cs, h => by
   cases c with
   | mW a j g e i k q ys =>
     rcases List.mem_cons.1 h with rfl | h
     · exact List.mem_cons_self
     · exact List.mem_cons_of_mem _ (rG h)
   | _ => exact List.mem_cons_of_mem _ (rG h)
theorem Az {a j g e i k : Nat} {q : RT} {ys : List (ak q)} : {cs : List CV} → CV.mW a j g e i k q ys ∈ cs → (⟨a, j, g, e, i, k, q, ys⟩ : Dr) ∈ vA cs
 | [], h => by cases h
 | c :: cs, h => by
   rcases List.mem_cons.1 h with rfl | h
   · exact List.mem_cons_self
   · have := Az (cs := cs) h
     cases c with
     | mW _ _ _ _ _ _ _ _ => exact List.mem_cons_of_mem _ this
     | _ => exact this
theorem AA {y : Dr} : {ms : List (Pm × V)} → y ∈ oL ms → ∃ m ∈ ms, (m = (.io, .one y.cv)) ∨ ∃ cs, m = (.bo, .agg cs) ∧ y.cv ∈ cs
 | [], h => by simp [oL] at h
 | (p, v) :: ms, h => by
   have rest : y ∈ oL ms → ∃ m ∈ (p, v) :: ms, (m = (.io, .one y.cv)) ∨ ∃ cs, m = (.bo, .agg cs) ∧ y.cv ∈ cs := fun h => by
     obtain ⟨m, hm, e⟩ := AA h; exact ⟨m, List.mem_cons_of_mem _ hm, e⟩
   cases p with
   | io => cases v with
     | one c =>
       rcases List.mem_append.1 h with h | h
       · have := rG h; simp at this; exact ⟨_, List.mem_cons_self, .inl (by rw [this])⟩
       · exact rest h
     | _ => exact rest h
   | bo => cases v with
     | agg cs =>
       rcases List.mem_append.1 h with h | h
       · exact ⟨_, List.mem_cons_self, .inr ⟨cs, rfl, rG h⟩⟩
       · exact rest h
     | _ => exact rest h
   | _ => exact rest (by cases v <;> exact h)
theorem Cq {a j g e i k : Nat} {q : RT} {ys : List (ak q)} : {ms : List (Pm × V)} → (.io, .one (.mW a j g e i k q ys)) ∈ ms → (⟨a, j, g, e, i, k, q, ys⟩ : Dr) ∈ oL ms
 | [], h => by cases h
 | (p, v) :: ms, h => by
   rcases List.mem_cons.1 h with h | h
   · cases h
     exact List.mem_append_left _ List.mem_cons_self
   · have := Cq (ms := ms) h
     cases p <;> cases v <;> first | exact this | exact List.mem_append_right _ this
theorem yR {a j g e i k : Nat} {q : RT} {ys : List (ak q)} {cs : List CV} (hc : CV.mW a j g e i k q ys ∈ cs) : {ms : List (Pm × V)} → (.bo, .agg cs) ∈ ms → (⟨a, j, g, e, i, k, q, ys⟩ : Dr) ∈ oL ms
 | [], h => by cases h
 | (p, v) :: ms, h => by
   rcases List.mem_cons.1 h with h | h
   · cases h
     exact List.mem_append_left _ (Az hc)
   · have := yR hc (ms := ms) h
     cases p <;> cases v <;> first | exact this | exact List.mem_append_right _ this
theorem xk {st : St} {ms : List (Pm × V)} {x : Dr} {A : fK} {l : List Dr} (h : j7 st ms = some (x, A, l)) :
   l = oL ms ∧ aQ st x.a x.j x.g = some A ∧ A.own = true ∧ A.md = .dp ∧ kU st x.a = x.e ∧ (∀ y ∈ l, y.a = x.a ∧ y.j = x.j ∧ y.g = x.g ∧ y.e = x.e ∧ y.i = x.i) ∧ C7 (l.map (·.k)) = true ∧ x.a ≠ st.length - 1 := by
 unfold j7 at h
 cases hd : oL ms with
 | nil => rw [hd] at h; cases h
 | cons y l' =>
   rw [hd] at h; simp only at h
   cases hA : aQ st y.a y.j y.g with
   | none => rw [hA] at h; cases h
   | some B =>
     rw [hA] at h; simp only at h; obtain ⟨h1, h⟩ := aD h; simp only [Option.some.injEq, Prod.mk.injEq] at h; obtain ⟨rfl, rfl, rfl⟩ := h; simp only [Bool.and_eq_true] at h1; obtain ⟨⟨⟨⟨⟨h1, h2⟩, h3⟩, h4⟩, h5⟩, h6⟩ := h1; refine ⟨rfl, hA, h1, Md.kh.1 h2, (Nat.eq_of_beq_eq_true h3).symm, fun z hz => ?_, h5, fun e => ?_⟩
     · rcases List.mem_cons.1 hz with rfl | hz
       · exact ⟨rfl, rfl, rfl, rfl, rfl⟩
       · have := List.all_eq_true.1 h4 z hz; simp only [Bool.and_eq_true] at this; obtain ⟨⟨⟨⟨q1, q2⟩, q3⟩, q4⟩, q5⟩ := this; exact ⟨Nat.eq_of_beq_eq_true q1, Nat.eq_of_beq_eq_true q2, Nat.eq_of_beq_eq_true q3, Nat.eq_of_beq_eq_true q4, Nat.eq_of_beq_eq_true q5⟩
     · rw [← e, Nat.beq_refl] at h6
       cases h6
theorem EJ : (r : RT) → (x : ak r) → (k : Nat) → {p : (q : RT) × List (ak q)} → nR r x k = some p → k < r.width
 | .nil, _, _, _, h => by simp [nR] at h
 | .cons t r, x, 0, _, _ => by simp [RT.width]
 | .cons t r, x, k + 1, p, h => by
   have h' : nR r x.2 k = some p := by cases t <;> exact h
   have := EJ r x.2 k h'; simp [RT.width]; omega
noncomputable def Cz.split (c : Cz) (a j i P : Nat) (gg : Nat → List Nat) (l : List Dr) (J7 : Nat → Loc) : Cz :=
 { bx := c.bx, lc := fun s k => if s = P then J7 k else c.lc s k,
   own := fun k => have := Classical.propDecidable (c.own k = some (.sp a j) ∧ ∃ y q, y ∈ l ∧ gg k = i :: y.k :: q); if c.own k = some (.sp a j) ∧ ∃ y q, y ∈ l ∧ gg k = i :: y.k :: q then some (.sp P (posOf ((gg k).getD 1 0) 0 l)) else c.own k }
theorem Cz.l5 {c : Cz} {a j i P : Nat} {gg : Nat → List Nat} {l : List Dr} {J7 : Nat → Loc} {k : Nat} (h : ¬ (c.own k = some (.sp a j) ∧ ∃ y q, y ∈ l ∧ gg k = i :: y.k :: q)) : (c.split a j i P gg l J7).own k = c.own k := by
 unfold Cz.split; simp only; rw [if_neg h]
theorem Cz.EK {c : Cz} {a j i P : Nat} {gg : Nat → List Nat} {l : List Dr} {J7 : Nat → Loc} (hi : C7 (l.map (·.k)) = true) {k n : Nat} {y : Dr} {q : List Nat} (h : c.own k = some (.sp a j)) (hy : l[n]? = some y) (hg : gg k = i :: y.k :: q) : (c.split a j i P gg l J7).own k = some (.sp P n) := by
 unfold Cz.split; simp only; rw [if_pos ⟨h, y, q, List.mem_of_getElem? hy, hg⟩, hg]; have : (i :: y.k :: q).getD 1 0 = y.k := rfl; rw [this, EI hi hy]
theorem Cz.tL {c : Cz} {a j i P : Nat} {gg : Nat → List Nat} {l : List Dr} {J7 : Nat → Loc} {k : Nat} : (c.split a j i P gg l J7).ok k ↔ c.ok k := by
 unfold Cz.ok
 by_cases h : c.own k = some (.sp a j) ∧ ∃ y q, y ∈ l ∧ gg k = i :: y.k :: q
 · have h0 := h.1; unfold Cz.split; simp only; rw [if_pos h, h0]; simp
 · rw [Cz.l5 h]
theorem Cz.Gz {c : Cz} {a j i P : Nat} {gg : Nat → List Nat} {l : List Dr} {J7 : Nat → Loc} {k : Nat} {lb : Lb} (h : (c.split a j i P gg l J7).own k = some lb) : c.own k = some lb ∨ (c.own k = some (.sp a j) ∧ ∃ n, lb = .sp P n) := by
 by_cases h1 : c.own k = some (.sp a j) ∧ ∃ y q, y ∈ l ∧ gg k = i :: y.k :: q
 · unfold Cz.split at h; simp only at h; rw [if_pos h1] at h; exact .inr ⟨h1.1, _, (Option.some.inj h).symm⟩
 · rw [Cz.l5 h1] at h; exact .inl h
theorem tM {st : St} {x : Dr} {A : fK} {l : List Dr} (fk : x.a ≠ st.length - 1) (s : Nat) : nth (dJ st x A l) s = if s = st.length - 1 then (nth st s).map (fun z => { z with aI := l.map (fun y => some y.arr), ag := z.ag + 1, ep := z.ep + 1 }) else
   (if s = x.a then (nth st s).map (fun z => { z with aI := kP (fun _ => some { A with md := .ho x.i }) z.aI x.j, ep := z.ep + 1 }) else nth st s) := by
 unfold dJ bf; rw [cL, cL]
 by_cases e : s = st.length - 1
 · rw [if_pos e, if_pos e, if_neg (show ¬ (s = x.a) from fun e' => fk (e'.symm.trans e))]
 · rw [if_neg e, if_neg e]
end Go.TM
namespace Go.TM
open Go Go.RowKit
structure O1 (c c1 : Cz) (st : St) (w : World) (x : Dr) (A : fK) (l : List Dr) (gg : Nat → List Nat) (b o cap : Nat) : Prop where
 lc : c.lc x.a x.j = .at b o cap
 lc1 : c1.lc x.a x.j = .at b o cap
 own : c.own b = some (.sp x.a x.j)
 g0 : gg b = []
 rows : ∀ (i : Nat) z, A.xs[i]? = some z → fo w (fun p k => c.own k = some (.sp x.a x.j) ∧ gg k = p) A.r [i] 0 b (o + i * A.r.width) z
 stay : ∀ k, c.own k = some (.sp x.a x.j) → (∀ y ∈ l, ∀ q, gg k ≠ x.i :: y.k :: q) → c1.own k = some (.sp x.a x.j)
 out : ∀ n y, l[n]? = some y → ∃ v, w.cell? ⟨b, o + x.i * A.r.width + y.k, none⟩ = some v ∧ v.oneCell' = true ∧ gP (c1.lc (st.length - 1) n) y.q.width 0 y.ys.length v ∧ y.k < A.r.width
 len : x.i < A.xs.length
theorem tL {w0 : World} {mu : Mu} {c : Cz} {st : St} {a : Act} {w : World} (h : Rel w0 mu c st a w) {ms : List (Pm × V)} {x : Dr} {A : fK} {l : List Dr} (hs : j7 st ms = some (x, A, l)) (tJ : ∀ m ∈ ms, ∃ v, dV c st w m.2 v) :
   ∃ (c1 : Cz) (gg : Nat → List Nat) (b o cap : Nat), Rel w0 mu c1 (dJ st x A l) a w ∧ Fw c st w c1 (dJ st x A l) w ∧ O1 c c1 st w x A l gg b o cap ∧
     ∀ m ∈ ms, ∀ v, dV c st w m.2 v → dV c1 (dJ st x A l) w (Nv (st.length - 1) (lK st (st.length - 1) + 1) l m).2 v := by
 obtain ⟨hl, hA, eH, uV, hep, oU, Ji, fk⟩ := xk hs; have oX : ∀ y ∈ l, ∃ v, ir c st w y.cv v := by
   intro y hy; rw [hl] at hy; obtain ⟨m, hm, e | ⟨cs, e, hc⟩⟩ := AA hy
   · obtain ⟨v, hv⟩ := tJ m hm; rw [e] at hv; exact ⟨v, hv⟩
   · obtain ⟨v, hv⟩ := tJ m hm; rw [e] at hv; obtain ⟨vs, rfl, hL⟩ := hv; obtain ⟨k, hk⟩ := List.mem_iff_getElem?.1 hc; have bP : k < vs.toList.length := by rw [← hL.1]; exact (List.getElem?_eq_some_iff.1 hk).1
     exact ⟨_, hL.2 k _ _ hk (List.getElem?_eq_getElem bP)⟩
 have T7 : ∀ y ∈ l, ∀ v, ir c st w y.cv v → ∃ (gg : Nat → List Nat) (b o cap : Nat), c.lc x.a x.j = .at b o cap ∧ A.md = .dp ∧ gg b = [] ∧ w.cell? ⟨b, o + x.i * A.r.width + y.k, none⟩ = some v ∧
     (∀ (i : Nat) z, A.xs[i]? = some z → fo w (fun p k => c.own k = some (.sp x.a x.j) ∧ gg k = p) A.r [i] 0 b (o + i * A.r.width) z) ∧ (∃ z, A.xs[x.i]? = some z ∧ nR A.r z y.k = some ⟨y.q, y.ys⟩) := by
   intro y hy v hv; obtain ⟨e1, e2, e3, e4, e5⟩ := oU y hy; obtain ⟨ya, yj, yg, ye, yi, yk, yq, yys⟩ := y; simp only at e1 e2 e3 e4 e5; subst e1 e2 e3 e4 e5; obtain ⟨gg, b, o, cap, h1, h2, h3, h4, h5, h6, _⟩ := Ev hv hA hep (h.qG hA); exact ⟨gg, b, o, cap, h1, h2, h3, h4, h5, h6⟩
 have dL := h.qG hA; obtain ⟨y0, T8⟩ : ∃ y, y ∈ l := by
   cases QB : l with
   | cons y _ => exact ⟨y, List.mem_cons_self⟩
   | nil =>
     rw [QB] at hl; unfold j7 at hs; rw [← hl] at hs
     cases hs
 obtain ⟨v0, hv0⟩ := oX y0 T8; obtain ⟨gg, b, o, cap, fN, _, H4, _, vm, O2⟩ := T7 y0 T8 v0 hv0; have KW : ∀ y ∈ l, ∀ v, ir c st w y.cv v → w.cell? ⟨b, o + x.i * A.r.width + y.k, none⟩ = some v ∧ (∃ z, A.xs[x.i]? = some z ∧ nR A.r z y.k = some ⟨y.q, y.ys⟩) := by
   intro y hy v hv; obtain ⟨_, b', o', Ge, h1, _, _, h4, _, h6⟩ := T7 y hy v hv; rw [fN] at h1; injection h1 with e1 e2 e3; subst e1 e2 e3; exact ⟨h4, h6⟩
 have KX : ∀ n : Nat, ∃ lc : Loc, ∀ y, l[n]? = some y → ∃ v, w.cell? ⟨b, o + x.i * A.r.width + y.k, none⟩ = some v ∧ v.oneCell' = true ∧ gP lc y.q.width 0 y.ys.length v ∧
     ((lc = .nil ∧ y.ys = []) ∨ ∃ b' off Ge, lc = .at b' off Ge ∧ (c.own b' = some (.sp x.a x.j) ∧ gg b' = [x.i, y.k]) ∧ y.ys.length ≤ Ge ∧ (∃ cur ty, w.heap[b']? = some (.cells cur ty (0, 0)) ∧ off + Ge * y.q.width ≤ cur.size) ∧
       ∀ (i : Nat) z, y.ys[i]? = some z → fo w (fun p k => c.own k = some (.sp x.a x.j) ∧ gg k = p) y.q ([x.i, y.k] ++ [i]) 0 b' (off + i * y.q.width) z) := by
   intro n
   cases hn : l[n]? with
   | none => exact ⟨.nil, fun y hy => by cases hy⟩
   | some y =>
     have hy := List.mem_of_getElem? hn; obtain ⟨v, hv⟩ := oX y hy; obtain ⟨h4, z, QC, NQ⟩ := KW y hy v hv; obtain ⟨v', q1, q2⟩ := x5 A.r [x.i] 0 _ z y.k (vm x.i z QC) NQ; rw [h4] at q1
     cases q1
     obtain ⟨lc, r1, r2, r3⟩ := (tj _ _ _ _ _ _).1 q2; refine ⟨lc, fun y' Nn => ?_⟩
     cases Nn
     exact ⟨v, h4, r2, r1, by simpa using r3⟩
 obtain ⟨J7, QD⟩ := Classical.axiomOfChoice KX; have hb : c.own b = some (.sp x.a x.j) := by
   unfold bA at dL; rw [fN] at dL; have := dL.1
   rwa [eH] at this
 let P := st.length - 1
 let c1 := c.split x.a x.j x.i P gg l J7
 have xl := tM (A := A) (l := l) fk; obtain ⟨sla, O3, ha2, T9⟩ := a7 hA; have QE : P < st.length := by
   have := C9 O3; show st.length - 1 < st.length; omega
 obtain ⟨slP, hP⟩ : ∃ s, nth st P = some s := ⟨st[P], by rw [fm]; exact List.getElem?_eq_getElem QE⟩; have YL : lK st P = slP.ag := by unfold lK; rw [hP]
 have Cr : ∀ s k, s ≠ P → c1.lc s k = c.lc s k := fun s k e => by show (if s = P then _ else _) = _; rw [if_neg e]
 have KY : ∀ k, c1.lc P k = J7 k := fun k => by show (if P = P then _ else _) = _; rw [if_pos rfl]
 have x8 : ∀ s, cD st s ≤ cD (dJ st x A l) s ∧ fI st s = fI (dJ st x A l) s ∧ kU st s ≤ kU (dJ st x A l) s ∧ (s = P ∨ s = x.a → nth st s ≠ none → kU (dJ st x A l) s ≠ kU st s) := by
   intro s; unfold cD fI kU; rw [xl]
   by_cases e : s = st.length - 1
   · rw [if_pos e]
     cases nth st s with
     | none => simp
     | some z => refine ⟨by simp, rfl, by simp, fun _ _ => by simp⟩
   · rw [if_neg e]
     by_cases e2 : s = x.a
     · rw [if_pos e2]
       cases nth st s with
       | none => simp
       | some z => refine ⟨by simp, rfl, by simp, fun _ _ => by simp⟩
     · rw [if_neg e2]; exact ⟨Nat.le_refl _, rfl, Nat.le_refl _, fun h => absurd h (by rintro (h | h); exact e h; exact e2 h)⟩
 have Ua : cD (dJ st x A l) P = slP.ag + 1 := by
   unfold cD; rw [xl, if_pos rfl, hP]; rfl
 have fB : Fw c st w c1 (dJ st x A l) w := {
   stays := ⟨Nat.le_refl _, fun _ _ _ => rfl, fun _ _ h => Cz.tL.2 h⟩
   refs := fun a' j' g' A2 hg Gr => by
     obtain ⟨sl, k1, k2, k3⟩ := a7 Gr; rw [xl] at k1
     by_cases e : a' = st.length - 1
     · rw [if_pos e] at k1; obtain ⟨z, hz, rfl⟩ := Option.map_eq_some_iff.1 k1; unfold cD at hg; rw [hz] at hg; simp only at k2 hg; omega
     · rw [if_neg e] at k1
       by_cases e2 : a' = x.a
       · rw [if_pos e2] at k1; obtain ⟨z, hz, rfl⟩ := Option.map_eq_some_iff.1 k1; have Ub := (x8 a').2.2.2 (.inr e2) (by rw [hz]; simp); simp only at k2 k3; rw [cL] at k3
         by_cases e3 : j' = x.j
         · rw [if_pos e3] at k3; subst e2 e3; rw [O3] at hz
           cases hz
           rw [T9] at k3; simp only [Option.map_some, Option.some.injEq] at k3; subst k3; exact ⟨A, mj O3 k2 T9, rfl, rfl, Cr _ _ e, fun he => absurd he Ub⟩
         · rw [if_neg e3] at k3; exact ⟨A2, mj hz k2 k3, rfl, rfl, Cr _ _ e, fun he => absurd he Ub⟩
       · rw [if_neg e2] at k1; exact ⟨A2, mj k1 k2 k3, rfl, rfl, Cr _ _ e, fun _ => ⟨rfl, fun _ _ _ _ => rfl⟩⟩
   zF := fun b' g' lF _ kj => by
     refine ⟨⟨lF, ?_⟩, rfl⟩; unfold cX at kj ⊢; rw [xl] at kj
     by_cases e : b' = st.length - 1
     · rw [if_pos e] at kj
       cases hz : nth st b' with
       | none => rw [hz] at kj; cases kj
       | some z => rw [hz] at kj; exact kj
     · rw [if_neg e] at kj
       by_cases e2 : b' = x.a
       · rw [if_pos e2] at kj
         cases hz : nth st b' with
         | none => rw [hz] at kj; cases kj
         | some z => rw [hz] at kj; exact kj
       · rw [if_neg e2] at kj; exact kj
   gA := fun s => (x8 s).1
   gB := fun s => Nat.le_of_eq (x8 s).2.1
   gE := fun s => (x8 s).2.2.1 }
 have Uc : ∀ t, bI (dJ st x A l) t = bI st t := by
   intro t; unfold bI; rw [xl]
   by_cases e : t = st.length - 1
   · rw [if_pos e]; cases nth st t <;> rfl
   · rw [if_neg e]
     by_cases e2 : t = x.a
     · rw [if_pos e2]; cases nth st t <;> rfl
     · rw [if_neg e2]
 have other : ∀ s k B, bA c w s k B → ¬ (s = x.a ∧ k = x.j) → s ≠ P → bA c1 w s k B := by
   intro s k B hB hn hsP; refine hB.go fB.stays (Cr s k hsP) (fun kb hk => ⟨rfl, Cz.l5 ?_⟩)
   rintro ⟨h1, _⟩
   rw [hk] at h1; injection h1 with h1; injection h1 with e1 e2; exact hn ⟨e1, e2⟩
 have YM : Rel w0 mu c1 (dJ st x A l) a w := {
   eO := fun t => by rw [Uc]; exact fB.kZ (h.eO t)
   boxes := fun s sl cs hs kj => by
     have : ∃ OY, nth st s = some OY ∧ OY.box = some cs := by
       rw [xl] at hs
       by_cases e : s = st.length - 1
       · rw [if_pos e] at hs; obtain ⟨z, hz, rfl⟩ := Option.map_eq_some_iff.1 hs; exact ⟨z, hz, kj⟩
       · rw [if_neg e] at hs
         by_cases e2 : s = x.a
         · rw [if_pos e2] at hs; obtain ⟨z, hz, rfl⟩ := Option.map_eq_some_iff.1 hs; exact ⟨z, hz, kj⟩
         · rw [if_neg e2] at hs; exact ⟨sl, hs, kj⟩
     obtain ⟨OY, gm, Qa⟩ := this; have zw := h.boxes s OY cs gm Qa; refine zw.go fB rfl (Cz.l5 ?_) rfl
     rintro ⟨h1, _⟩
     rw [zw.1] at h1
     cases h1
   aI := fun s k sl B hs hB => by
     rw [xl] at hs
     by_cases e : s = st.length - 1
     · rw [if_pos e] at hs; obtain ⟨z, hz, rfl⟩ := Option.map_eq_some_iff.1 hs; simp only at hB; rw [fm, List.getElem?_map] at hB
       cases hy : l[k]? with
       | none => rw [hy] at hB; cases hB
       | some y =>
         rw [hy] at hB; simp only [Option.map_some, Option.some.injEq] at hB; subst hB; obtain ⟨v, r1, r2, r3, r4⟩ := QD k y hy; have es : s = P := e; rw [es]; unfold bA; rw [KY]; rcases r4 with ⟨e4, e5⟩ | ⟨b', off, Ge, e4, ⟨q1, q2⟩, q3, q4, q5⟩
         · rw [e4]; exact e5
         · rw [e4]; refine ⟨Cz.EK Ji q1 hy (q := []) q2, q3, q4, ?_⟩; unfold bh; show match (bif y.q.dB then Md.dp else Md.sh) with | .sh => _ | .dp => _ | .ho _ => _
           cases NR : y.q.dB with
           | false => exact fun i z hz => fo.Ef _ _ _ _ _ z NR (q5 i z hz)
           | true =>
             refine ⟨fun k => (gg k).drop 2, by show List.drop 2 (gg b') = []; rw [q2]; rfl, fun i z hz => fo.go _ _ [i] (fun q kb hk => ⟨rfl, Cz.EK Ji hk.1 hy (q := [i] ++ q) (by rw [hk.2]; simp), by show List.drop 2 (gg kb) = _; rw [hk.2]; simp⟩) _ _ _ z rfl (q5 i z hz)⟩
     · rw [if_neg e] at hs
       by_cases e2 : s = x.a
       · rw [if_pos e2] at hs; obtain ⟨z, hz, rfl⟩ := Option.map_eq_some_iff.1 hs; simp only at hB; rw [cL] at hB
         by_cases e3 : k = x.j
         · rw [if_pos e3] at hB; subst e2 e3; rw [O3] at hz
           cases hz
           rw [T9] at hB; simp only [Option.map_some, Option.some.injEq] at hB; subst hB; unfold bA at dL ⊢; rw [Cr _ _ e, fN]; rw [fN] at dL; obtain ⟨h0, h2, h3, _⟩ := dL; refine ⟨?_, h2, h3, fun _ => ⟨gg, H4, fun i' z hq hz => fo.go _ [i'] [i'] (fun q kb hk => ⟨rfl, (Cz.l5 (by
             rintro ⟨_, y, q', _, hg⟩
             rw [hk.2] at hg; injection hg with e' _; exact hq e')).trans hk.1, hk.2⟩) _ _ _ z rfl (vm i' z hz)⟩⟩
           show match A.own with | true => _ | false => _
           rw [eH]; show c1.own b = _; rw [Cz.l5]
           · exact hb
           · rintro ⟨_, y, q, _, hq⟩
             rw [H4] at hq
             cases hq
         · rw [if_neg e3] at hB; exact other s k B (h.aI s k z B hz hB) (fun hh => e3 hh.2) e
       · rw [if_neg e2] at hs; exact other s k B (h.aI s k sl B hs hB) (fun hh => e2 hh.1) e
   owned := fun kb lb hk => by
     rcases Cz.Gz hk with h1 | ⟨h1, n, rfl⟩
     · exact h.owned kb lb h1
     · obtain ⟨g1, g2⟩ := h.owned kb _ h1; exact ⟨g1, .inr (g2.resolve_left (by simp))⟩
   free := fun kb bP hk => h.free kb bP (Cz.tL.1 hk)
   kept := h.kept
   old := h.old
   plain := h.plain
   dK := fun p hp => fB.dK (h.dK p hp) }
 refine ⟨c1, gg, b, o, cap, YM, fB, ⟨fN, by rw [Cr _ _ fk]; exact fN, hb, H4, vm, fun k hk hq => ?_, fun n y hn => ?_, ?_⟩, ?_⟩
 · show c1.own k = _; rw [Cz.l5]
   · exact hk
   · rintro ⟨_, y, q, hy, hq'⟩
     exact hq y hy q hq'
 · obtain ⟨v, r1, r2, r3, _⟩ := QD n y hn; refine ⟨v, r1, r2, by rw [KY]; exact r3, ?_⟩; obtain ⟨v', lH⟩ := oX y (List.mem_of_getElem? hn); obtain ⟨_, z, _, NQ⟩ := KW y (List.mem_of_getElem? hn) v' lH; exact EJ _ _ _ NQ
 · obtain ⟨z, QC, _⟩ := O2; exact (List.getElem?_eq_some_iff.1 QC).1
 · -- F3 values Kc SI iO
   have cell : ∀ cv v, ir c st w cv v → (∀ a j g e i k q ys, cv = .mW a j g e i k q ys → (⟨a, j, g, e, i, k, q, ys⟩ : Dr) ∈ l) → ir c1 (dJ st x A l) w (P8 (st.length - 1) (lK st (st.length - 1) + 1) l cv) v := by
     intro cv v hv hm
     cases cv with
     | mW a j g e i k q ys =>
       have hy := hm _ _ _ _ _ _ _ _ rfl; obtain ⟨n, hn⟩ := List.mem_iff_getElem?.1 hy; have KZ : posOf k 0 l = n := EI Ji hn; show ir c1 (dJ st x A l) w (.ref P (posOf k 0 l) (lK st P + 1) .full) v; rw [KZ]; obtain ⟨v', r1, r2, r3, _⟩ := QD n _ hn; have hvv := (KW _ hy v hv).1; rw [r1] at hvv
       cases hvv
       refine ⟨r2, by rw [Ua, YL]; exact Nat.le_refl _, fun B hB => ?_⟩; obtain ⟨sl, k1, k2, k3⟩ := a7 hB; rw [xl, if_pos rfl] at k1; obtain ⟨z, hz, rfl⟩ := Option.map_eq_some_iff.1 k1; simp only at k3; rw [fm, List.getElem?_map, hn] at k3; simp only [Option.map_some, Option.some.injEq] at k3; subst k3; rw [KY]; exact r3
     | _ => exact fB.Kq hv
   intro m hm v hv; obtain ⟨pm, mv⟩ := m
   cases pm with
   | io => cases mv with
     | one cv =>
       exact cell cv v hv (fun a j g e i k q ys e1 => by rw [hl]; subst e1; exact Cq hm)
     | _ => exact fB.kZ hv
   | bo => cases mv with
     | agg cs =>
       obtain ⟨vs, rfl, hL⟩ := hv; refine ⟨vs, rfl, by rw [List.length_map]; exact hL.1, fun i y u hy hu => ?_⟩; rw [List.getElem?_map] at hy; obtain ⟨y0, T8, rfl⟩ := Option.map_eq_some_iff.1 hy; exact cell y0 u (hL.2 i y0 u T8 hu) (fun a j g e i k q ys e1 => by rw [hl]; subst e1; exact yR (List.mem_of_getElem? T8) hm)
     | _ => exact fB.kZ hv
   | _ => cases mv <;> exact fB.kZ hv
end Go.TM
namespace Go.TM
open Go Go.RowKit
theorem Rel.clear {w0 : World} {mu : Mu} {c : Cz} {st : St} {a : Act} {w : World} (h : Rel w0 mu c st a w) (P : Nat) : Rel w0 mu c (kP (fun s => { s with aI := [], ep := s.ep + 1 }) st P) a w ∧ Fw c st w c (kP (fun s => { s with aI := [], ep := s.ep + 1 }) st P) w := by
 have hn : ∀ s, nth (kP (fun s => { s with aI := [], ep := s.ep + 1 }) st P) s = if s = P then (nth st s).map (fun z => { z with aI := [], ep := z.ep + 1 }) else nth st s := fun s => cL _ _ _ _
 generalize kP (fun s => { s with aI := [], ep := s.ep + 1 }) st P = aP at hn ⊢; have fB : Fw c st w c aP w := {
   stays := gH.refl w _
   refs := fun a' j' g' A' _ dL => by
     obtain ⟨sl, k1, k2, k3⟩ := a7 dL; rw [hn] at k1
     by_cases e : a' = P
     · rw [if_pos e] at k1; obtain ⟨z, hz, rfl⟩ := Option.map_eq_some_iff.1 k1; simp [nth] at k3
     · rw [if_neg e] at k1; exact ⟨A', mj k1 k2 k3, rfl, rfl, rfl, fun _ => ⟨rfl, fun _ _ _ _ => rfl⟩⟩
   zF := fun b' g' lF _ kj => by
     refine ⟨⟨lF, ?_⟩, rfl⟩; unfold cX at kj ⊢; rw [hn] at kj
     by_cases e : b' = P
     · rw [if_pos e] at kj
       cases hz : nth st b' with
       | none => rw [hz] at kj; cases kj
       | some z => rw [hz] at kj; exact kj
     · rw [if_neg e] at kj; exact kj
   gA := fun s => by
     unfold cD; rw [hn]
     by_cases e : s = P
     · rw [if_pos e]; cases nth st s <;> simp
     · rw [if_neg e]; exact Nat.le_refl _
   gB := fun s => by
     unfold fI; rw [hn]
     by_cases e : s = P
     · rw [if_pos e]; cases nth st s <;> simp
     · rw [if_neg e]; exact Nat.le_refl _
   gE := fun s => by
     unfold kU; rw [hn]
     by_cases e : s = P
     · rw [if_pos e]; cases nth st s <;> simp
     · rw [if_neg e]; exact Nat.le_refl _ }
 refine ⟨{
   eO := fun t => by
     have : bI aP t = bI st t := by
       unfold bI; rw [hn]
       by_cases e : t = P
       · rw [if_pos e]; cases nth st t <;> rfl
       · rw [if_neg e]
     rw [this]; exact fB.kZ (h.eO t)
   boxes := fun s sl cs hs hb => by
     rw [hn] at hs
     by_cases e : s = P
     · rw [if_pos e] at hs; obtain ⟨z, hz, rfl⟩ := Option.map_eq_some_iff.1 hs; exact (h.boxes s z cs hz hb).go fB rfl rfl rfl
     · rw [if_neg e] at hs; exact (h.boxes s sl cs hs hb).go fB rfl rfl rfl
   aI := fun s j sl A hs hA => by
     rw [hn] at hs
     by_cases e : s = P
     · rw [if_pos e] at hs; obtain ⟨z, hz, rfl⟩ := Option.map_eq_some_iff.1 hs; simp [nth] at hA
     · rw [if_neg e] at hs; exact h.aI s j sl A hs hA
   owned := h.owned
   free := h.free
   kept := h.kept
   old := h.old
   plain := h.plain
   dK := fun p hp => fB.dK (h.dK p hp) }, fB⟩
theorem Rel.swap {w0 : World} {mu : Mu} {c : Cz} {st : St} {a : Act} {w : World} (h : Rel w0 mu c st a w) {s j g : Nat} {H B : fK} (hH : aQ st s j g = some H) (hw : B.r.width = H.r.width) (hn : B.xs.length = H.xs.length) (hB : bA c w s j B) :
   Rel w0 mu (c.dD id c.bx c.lc) (bf st s j (some B)) a w := by
 have fB : Fw c st w (c.dD id c.bx c.lc) (bf st s j (some B)) w := x7 (.inl hH) (fun _ e => by cases e; exact ⟨hw, hn⟩) id; have hX : ja (fun _ => False) w0 mu c st a w := ⟨h.eO, fun s sl cs _ => h.boxes s sl cs, fun s j sl A _ => h.aI s j sl A, h.owned, h.free, h.kept, h.old, h.plain, h.dK⟩; refine (hX.dD oV fB (fun t => by rw [tH]; exact fB.kZ (h.eO t)) (fun k sl cs _ hs hb => ?_) (fun k i sl A _ hs hA => ?_)).rel
 · obtain ⟨f, hf, hk⟩ := fH st s j (some B) k; rw [hk] at hs
   cases hx : nth st k with
   | none => rw [hx] at hs; simp at hs
   | some x =>
     rw [hx] at hs; simp at hs; subst hs; rw [(hf x).2.1] at hb; exact (h.boxes k x cs hx hb).dD oV fB rfl
 · obtain ⟨f, hf, hk⟩ := fH st s j (some B) k; rw [hk] at hs
   cases hx : nth st k with
   | none => rw [hx] at hs; simp at hs
   | some x =>
     rw [hx] at hs; simp at hs; subst hs; rw [(hf x).2.2.2.2.1 i] at hA
     by_cases e : k = s ∧ i = j
     · rw [if_pos e] at hA; obtain ⟨rfl, rfl⟩ := e
       cases hq : nth x.aI i with
       | none => simp [hq] at hA
       | some A1 =>
         simp only [hq, Option.map_some, Option.some.injEq] at hA; subst hA; exact hB.dD oV rfl
     · rw [if_neg e] at hA; exact (h.aI k i x A hx hA).dD oV rfl
def gu (w : World) (P : List Nat → Nat → Prop) (K : Nat → Prop) : (r : RT) → (p : List Nat) → (k : Nat) → List Value → ak r → Prop
 | .nil, _, _, vs, _ => vs = []
 | .cons t r, p, k, vs, x => ∃ v l, vs = v :: l ∧ (¬ K k → cE w P t (p ++ [k]) v x.1) ∧ gu w P K r p (k + 1) l x.2
theorem gu.of {w w' : World} {P P' : List Nat → Nat → Prop} {K : Nat → Prop} : (r : RT) → (p : List Nat) → (hP : ∀ k q b, ¬ K k → P (p ++ [k] ++ q) b → w'.heap[b]? = w.heap[b]? ∧ P' (p ++ [k] ++ q) b) → (k : Nat) → (vs : List Value) → (x : ak r) → cF w P r p k vs x → gu w' P' K r p k vs x
 | .nil, _, _, _, _, _, h => h
 | .cons t r, p, hP, k, vs, x, h => by
   obtain ⟨v, l, e, h1, h2⟩ := h; exact ⟨v, l, e, fun hk => cE.go t (p ++ [k]) (p ++ [k]) (fun q b hb => hP k q b hk hb) v x.1 h1, gu.of r p hP (k + 1) l x.2 h2⟩
theorem gu.full {w : World} {P : List Nat → Nat → Prop} {K : Nat → Prop} (hK : ∀ k, ¬ K k) : (r : RT) → (p : List Nat) → (k : Nat) → (vs : List Value) → (x : ak r) → gu w P K r p k vs x → cF w P r p k vs x
 | .nil, _, _, _, _, h => h
 | .cons t r, p, k, vs, x, h => by
   obtain ⟨v, l, e, h1, h2⟩ := h; exact ⟨v, l, e, h1 (hK k), gu.full hK r p (k + 1) l x.2 h2⟩
theorem gu.mono {w : World} {P : List Nat → Nat → Prop} {K K' : Nat → Prop} : (r : RT) → (p : List Nat) → (k : Nat) → (hK : ∀ c, k ≤ c → K c → K' c) → (vs : List Value) → (x : ak r) → gu w P K r p k vs x → gu w P K' r p k vs x
 | .nil, _, _, _, _, _, h => h
 | .cons t r, p, k, hK, vs, x, h => by
   obtain ⟨v, l, e, h1, h2⟩ := h; exact ⟨v, l, e, fun hk => h1 fun h => hk (hK k (Nat.le_refl _) h), gu.mono r p (k + 1) (fun c hc => hK c (by omega)) l x.2 h2⟩
theorem gu.set {w : World} {P : List Nat → Nat → Prop} {q : RT} {ys : List (ak q)} {v : Value} : {K : Nat → Prop} → (r : RT) → (p : List Nat) → (k0 : Nat) → (vs : List Value) → (x : ak r) → (col : Nat) → {z : ak r} → gu w P K r p k0 vs x → kW r x col q ys = some z → vs[col]? = some v → cE w P (.sl q) (p ++ [k0 + col]) v ys →
   gu w P (fun c => K c ∧ c ≠ k0 + col) r p k0 vs z
 | _, .nil, _, _, _, _, _, _, _, h, _, _ => by simp [kW] at h
 | K, .cons t r, p, k0, vs, x, 0, z, hx, h, hv, hd => by
   obtain ⟨v', l, rfl, h1, h2⟩ := hx
   cases t with
   | sl q' =>
     have h : (bn q' ys).map (fun zs => ((zs, x.2) : ak (.cons (.sl q') r))) = some z := h; obtain ⟨zs, Ud, hz⟩ := Option.map_eq_some_iff.1 h; obtain ⟨e, rfl⟩ := aX Ud; subst e; subst hz; simp only [List.getElem?_cons_zero, Option.some.injEq] at hv; subst hv; exact ⟨v', l, rfl, fun _ => hd, gu.mono r p (k0 + 1) (fun c hc hK => ⟨hK, by omega⟩) l x.2 h2⟩
   | int _ => simp [kW] at h
   | bool => simp [kW] at h
   | str => simp [kW] at h
 | K, .cons t r, p, k0, vs, x, col + 1, z, hx, h, hv, hd => by
   obtain ⟨v', l, rfl, h1, h2⟩ := hx; have h' : (kW r x.2 col q ys).map (fun z => ((x.1, z) : ak (.cons t r))) = some z := by cases t <;> exact h
   obtain ⟨z', hz', hz⟩ := Option.map_eq_some_iff.1 h'; subst hz; have := gu.set r p (k0 + 1) l x.2 col h2 hz' (by simpa using hv) (by rw [show k0 + 1 + col = k0 + (col + 1) by omega]; exact hd); refine ⟨v', l, rfl, fun hk => h1 fun h => hk ⟨h, by omega⟩, ?_⟩
   rwa [show k0 + 1 + col = k0 + (col + 1) by omega] at this
theorem GA {w : World} {P : List Nat → Nat → Prop} {p : List Nat} {v : Value} {r s : RT} {xs : List (ak r)} {ys : List (ak s)} (h : bn s xs = some ys) (hd : cE w P (.sl r) p v xs) : cE w P (.sl s) p v ys := by
 obtain ⟨e, rfl⟩ := aX h; subst e; exact hd
theorem AB {st : St} {P g : Nat} {r : RT} {w : World} {PP : List Nat → Nat → Prop} {p : List Nat} {vs : List Value} : (n : Nat) → (l : List Dr) → (z : ak r) → {z' : ak r} → rn st P g r n l z = some z' →
   (∀ m y, l[m]? = some y → ∀ B, aQ st P (n + m) g = some B → B.own = true → B.md = y.q.md → B.r = y.q → ∃ v, vs[y.k]? = some v ∧ cE w PP (.sl B.r) (p ++ [y.k]) v B.xs) →
   gu w PP (fun c => ∃ y ∈ l, y.k = c) r p 0 vs z → cF w PP r p 0 vs z'
 | n, [], z, z', h, _, hx => by
   simp only [rn, Option.some.injEq] at h; subst h; exact gu.full (by simp) _ _ _ _ _ hx
 | n, y :: l, z, z', h, hy, hx => by
   unfold rn at h
   cases hB : aQ st P n g with
   | none => rw [hB] at h; cases h
   | some B =>
     rw [hB] at h; obtain ⟨h1, h2⟩ := aD h; clear h; rw [Bool.and_eq_true] at h1
     cases hc : bn y.q B.xs with
     | none => rw [hc] at h2; cases h2
     | some ys =>
       rw [hc] at h2; simp only at h2
       cases hr : kW r z y.k y.q ys with
       | none => rw [hr] at h2; cases h2
       | some z1 =>
         rw [hr] at h2; simp only at h2; obtain ⟨e, he⟩ := aX hc; obtain ⟨v, hv, hd⟩ := hy 0 y rfl B hB h1.1 (Md.kh.1 h1.2) e; have GB : cE w PP (.sl y.q) (p ++ [0 + y.k]) v ys := by
           rw [Nat.zero_add]; exact GA hc hd
         refine AB (n + 1) l z1 h2 (fun m y' hm B' BK => hy (m + 1) y' (by simpa using hm) B' (by rw [show n + (m + 1) = n + 1 + m by omega]; exact BK)) ?_; have := gu.set _ _ _ _ _ _ hx hr hv GB; refine gu.mono _ _ _ (fun c _ hc => ?_) _ _ this; obtain ⟨⟨y', Nn, e'⟩, fk⟩ := hc; rcases List.mem_cons.1 Nn with rfl | Nn
         · exact absurd e'.symm (by omega)
         · exact ⟨y', Nn, e'⟩
theorem K0 {w0 : World} {mu : Mu} {c c1 c5 : Cz} {st fG aP : St} {a2 : Act} {w w' : World} {x : Dr} {A : fK} {l : List Dr} {gg : Nat → List Nat} {b o cap : Nat} (fk : x.a ≠ st.length - 1) (Gi : aQ st x.a x.j x.g = some A) (eH : A.own = true) (uV : A.md = .dp)
   (hA : bA c w x.a x.j A) (Ji : C7 (l.map (·.k)) = true) (BI : O1 c c1 st w x A l gg b o cap) (h5 : Rel w0 mu c5 fG a2 w') (fB : Fw c1 (dJ st x A l) w c5 fG w')
   (J6 : ∀ k, c1.own k = some (.sp x.a x.j) → w'.heap[k]? = w.heap[k]? ∧ c5.own k = some (.sp x.a x.j))
   (hv : (Gb (st.length - 1) (lK st (st.length - 1) + 1) x A l fG).val = some aP) : ∃ c6, Rel w0 mu c6 aP a2 w' := by
 unfold Gb at hv
 cases hH : aQ fG x.a x.j x.g with
 | none => rw [hH] at hv; cases hv
 | some H =>
   rw [hH] at hv; simp only at hv; obtain ⟨_, hv⟩ := cQ hv
   cases hz : A.xs[x.i]? with
   | none => rw [hz] at hv; cases hv
   | some z =>
     rw [hz] at hv; have hv : (match rn fG (st.length - 1) (lK st (st.length - 1) + 1) A.r 0 l z with
       | some z' => N.done (bf (kP (fun s => { s with aI := [], ep := s.ep + 1 }) fG (st.length - 1)) x.a x.j (some (A.put (A.xs.set x.i z'))))
       | none => .fail).val = some aP := hv
     cases hj : rn fG (st.length - 1) (lK st (st.length - 1) + 1) A.r 0 l z with
     | none => rw [hj] at hv; cases hv
     | some z' =>
       rw [hj] at hv; simp only [N.val, Option.some.injEq] at hv; subst hv; obtain ⟨P, hP⟩ : ∃ P, P = st.length - 1 := ⟨_, rfl⟩; rw [← hP] at fk hj ⊢; have KC := fk; rw [hP] at KC; have xl := tM (A := A) (l := l) KC; rw [← hP] at xl; obtain ⟨sla, O3, ha2, T9⟩ := a7 Gi; have X9 : x.g ≤ cD (dJ st x A l) x.a := by
         unfold cD; rw [xl, if_neg fk, if_pos rfl, O3]; show x.g ≤ sla.ag; omega
       have YN : ∀ B0, aQ (dJ st x A l) x.a x.j x.g = some B0 → B0.r.width = A.r.width ∧ B0.xs.length = A.xs.length := by
         intro B0 hB0; obtain ⟨sl, k1, k2, k3⟩ := a7 hB0; rw [xl, if_neg fk, if_pos rfl, O3] at k1; simp only [Option.map_some, Option.some.injEq] at k1; subst k1; simp only at k3; rw [cL, if_pos rfl, T9] at k3; simp only [Option.map_some, Option.some.injEq] at k3; subst k3; exact ⟨rfl, rfl⟩
       obtain ⟨B0, q1, q2, q3, q4, _⟩ := fB.refs x.a x.j x.g H X9 hH; obtain ⟨e1, e2⟩ := YN B0 q1; have YO : c5.lc x.a x.j = .at b o cap := q4.trans BI.lc1; have hPs : ∀ n B, aQ fG P n (lK st P + 1) = some B → ∃ y, l[n]? = some y ∧ B.xs.length = y.ys.length ∧ B.r.width = y.q.width ∧ c5.lc P n = c1.lc P n := by
         intro n B hB; have YL : lK st P + 1 ≤ cD (dJ st x A l) P := by
           unfold cD; rw [xl, if_pos rfl]; have QE : P < st.length := by have := C9 O3; omega
           have : nth st P = some st[P] := by rw [fm]; exact List.getElem?_eq_getElem QE
           rw [this]; unfold lK; rw [this]; exact Nat.le_refl _
         obtain ⟨B1, r1, r2, r3, r4, _⟩ := fB.refs P n _ B YL hB; obtain ⟨sl, k1, k2, k3⟩ := a7 r1; rw [xl, if_pos rfl] at k1; obtain ⟨zz, QF, rfl⟩ := Option.map_eq_some_iff.1 k1; simp only at k3; rw [fm, List.getElem?_map] at k3
         cases hy : l[n]? with
         | none => rw [hy] at k3; cases k3
         | some y =>
           rw [hy] at k3; simp only [Option.map_some, Option.some.injEq] at k3; subst k3; exact ⟨y, rfl, r3, r2, r4⟩
       have hG : ∃ G : Nat → Nat → List Nat, ∀ n B y, aQ fG P n (lK st P + 1) = some B → B.own = true → B.md = B.r.md → l[n]? = some y → ∀ v, v.oneCell' = true → gP (c5.lc P n) B.r.width 0 B.xs.length v →
           ∀ (PP : List Nat → Nat → Prop) (p : List Nat), (∀ k, c5.own k = some (.sp P n) → PP (p ++ G n k) k) → cE w' PP (.sl B.r) p v B.xs := by
         have : ∀ n, ∃ G : Nat → List Nat, ∀ B y, aQ fG P n (lK st P + 1) = some B → B.own = true → B.md = B.r.md → l[n]? = some y → ∀ v, v.oneCell' = true → gP (c5.lc P n) B.r.width 0 B.xs.length v →
           ∀ (PP : List Nat → Nat → Prop) (p : List Nat), (∀ k, c5.own k = some (.sp P n) → PP (p ++ G k) k) → cE w' PP (.sl B.r) p v B.xs := by
           intro n
           by_cases e : ∃ B, aQ fG P n (lK st P + 1) = some B ∧ B.own = true ∧ B.md = B.r.md
           · obtain ⟨B, hB, ho, hm⟩ := e
             by_cases e2 : ∃ v : Value, v.oneCell' = true ∧ gP (c5.lc P n) B.r.width 0 B.xs.length v
             · obtain ⟨v, wM, Gx⟩ := e2; obtain ⟨g, hg⟩ := Kw (h5.qG hB) ho hm; refine ⟨g, fun B' y BK _ _ _ v' h1 h2 PP p hP' => ?_⟩; rw [hB] at BK
               cases BK
               exact hg v' h1 h2 PP p hP'
             · refine ⟨fun _ => [], fun B' y BK _ _ _ v' h1 h2 => ?_⟩; rw [hB] at BK
               cases BK
               exact absurd ⟨v', h1, h2⟩ e2
           · exact ⟨fun _ => [], fun B' y BK h1 h2 => absurd ⟨B', BK, h1, h2⟩ e⟩
         obtain ⟨G, hG⟩ := Classical.axiomOfChoice this; exact ⟨G, fun n => hG n⟩
       obtain ⟨G, hG⟩ := hG; have NS : ∃ g6 : Nat → List Nat, (∀ k, c5.own k = some (.sp x.a x.j) → g6 k = gg k) ∧ ∀ n y k, l[n]? = some y → c5.own k = some (.sp P n) → g6 k = [x.i] ++ [y.k] ++ G n k := by
         have key : ∀ k, ∃ q : List Nat, (c5.own k = some (.sp x.a x.j) → q = gg k) ∧ ∀ n y, l[n]? = some y → c5.own k = some (.sp P n) → q = [x.i] ++ [y.k] ++ G n k := by
           intro k
           by_cases e : ∃ n y, l[n]? = some y ∧ c5.own k = some (.sp P n)
           · obtain ⟨n, y, f1, f2⟩ := e; refine ⟨[x.i] ++ [y.k] ++ G n k, fun h => ?_, fun n' y' h1 h2 => ?_⟩
             · rw [f2] at h; injection h with h; injection h with h _; exact absurd h.symm fk
             · rw [f2] at h2; injection h2 with h2; injection h2 with _ h2; subst h2; rw [f1] at h1
               cases h1
               rfl
           · exact ⟨gg k, fun _ => rfl, fun n y h1 h2 => absurd ⟨n, y, h1, h2⟩ e⟩
         obtain ⟨g6, h⟩ := Classical.axiomOfChoice key; exact ⟨g6, fun k => (h k).1, fun n y k => (h k).2 n y⟩
       obtain ⟨g6, QG, YP⟩ := NS; obtain ⟨oQ, ad6⟩ := h5.clear P; have KA : ∀ n ∈ (List.range l.length).map (fun n => (P, n)), ∀ sl B, nth (kP (fun s => { s with aI := [], ep := s.ep + 1 }) fG P) n.1 = some sl → nth sl.aI n.2 ≠ some (some B) := by
         intro n hn sl B hs; obtain ⟨m, _, rfl⟩ := List.mem_map.1 hn; rw [cL, if_pos rfl] at hs; obtain ⟨zz, _, rfl⟩ := Option.map_eq_some_iff.1 hs; simp [nth]
       have hrl := oQ.gJ KA x.a x.j; have uW : ∀ n y, l[n]? = some y → (P, n) ∈ (List.range l.length).map (fun n => (P, n)) := fun n y hn => List.mem_map.2 ⟨n, List.mem_range.2 (List.getElem?_eq_some_iff.1 hn).1, rfl⟩
       have K1 : ∀ k, c5.own k = some (.sp x.a x.j) → (c5.gJ ((List.range l.length).map (fun n => (P, n))) (.sp x.a x.j)).own k = some (.sp x.a x.j) := by
         intro k hk; rw [Cz.lY]
         · exact hk
         · intro n hn e; obtain ⟨m, _, rfl⟩ := List.mem_map.1 hn; rw [hk] at e; injection e with e; injection e with e _; exact fk e
       have hH' : aQ (kP (fun s => { s with aI := [], ep := s.ep + 1 }) fG P) x.a x.j x.g = some H := by
         obtain ⟨sl, k1, k2, k3⟩ := a7 hH; exact mj (by rw [cL, if_neg fk]; exact k1) k2 k3
       have Np : c1.own b = some (.sp x.a x.j) := BI.stay b BI.own (fun y _ q e => by rw [BI.g0] at e; cases e); obtain ⟨Ue, hb5⟩ := J6 b Np; have Kz : ∀ (i : Nat) zz, (A.xs.set x.i z')[i]? = some zz → fo w' (fun p k => (c5.gJ ((List.range l.length).map (fun n => (P, n))) (.sp x.a x.j)).own k = some (.sp x.a x.j) ∧ g6 k = p) A.r [i] 0 b (o + i * A.r.width) zz := by
         intro i zz QF; rw [List.getElem?_set] at QF
         by_cases e : x.i = i
         · subst e; rw [if_pos rfl, if_pos BI.len] at QF
           cases QF
           obtain ⟨vs, r1, r2⟩ := (iu _ _ _ _ _ _).1 (BI.rows x.i z hz); have wL := cF.length _ _ _ _ _ r2; refine (iu _ _ _ _ _ _).2 ⟨vs, fun k v hkv => by rw [World.cell?_of_block (w := w) Ue]; exact r1 k v hkv, ?_⟩; refine AB 0 l z hj (fun m y hm B hB TO Qp hBr => ?_) ?_
           · rw [Nat.zero_add] at hB; obtain ⟨v, u1, u2, u3, u4⟩ := BI.out m y hm; obtain ⟨y', f1, f2, f3, f4⟩ := hPs m B hB; rw [hm] at f1
             cases f1
             have hk : y.k < vs.length := by rw [wL]; exact u4
             have hvk : vs[y.k]? = some vs[y.k] := List.getElem?_eq_getElem hk; have := r1 y.k _ hvk; rw [u1] at this; refine ⟨v, by rw [hvk, ← Option.some.inj this], ?_⟩; refine hG m B y hB TO (by rw [Qp, hBr]) hm v u2 (by rw [f4, f2, f3, hP]; exact u3) _ _ (fun k hk => ⟨Cz.la (uW m y hm) hk, ?_⟩); exact YP m y k hm hk
           · refine gu.of _ [x.i] (fun k q kb hK hk => ?_) 0 vs z r2; have qn := BI.stay kb hk.1 (fun y hy q' e => hK ⟨y, hy, by
               have h2 := hk.2; rw [e] at h2; simp at h2; exact h2.1⟩)
             obtain ⟨f1, f2⟩ := J6 kb qn; exact ⟨f1, K1 kb f2, by rw [QG kb f2]; exact hk.2⟩
         · rw [if_neg e] at QF; refine fo.go _ [i] [i] (fun q kb hk => ?_) _ _ _ zz Ue (BI.rows i zz QF); have qn := BI.stay kb hk.1 (fun y _ q' e' => e (by
             have h2 := hk.2; rw [e'] at h2; simp at h2; exact h2.1))
           obtain ⟨f1, f2⟩ := J6 kb qn; exact ⟨f1, K1 kb f2, by rw [QG kb f2]; exact hk.2⟩
       refine ⟨_, hrl.swap hH' (B := A.put (A.xs.set x.i z')) (by rw [q2, e1]; rfl) (by rw [q3, e2]; show (A.xs.set x.i z').length = _; simp) ?_⟩; unfold bA at hA ⊢; show match c5.lc x.a x.j with | .nil => _ | .at b off cap => _
       rw [YO]; rw [BI.lc] at hA; obtain ⟨_, g2, ⟨cur, ty, g3, g4⟩, _⟩ := hA; refine ⟨?_, by show (A.xs.set x.i z').length ≤ cap; simpa using g2, ⟨cur, ty, by rw [Ue]; exact g3, g4⟩, ?_⟩
       · show match A.own with | true => _ | false => _
         rw [eH]; exact K1 b hb5
       · unfold bh; show match A.md with | .sh => _ | .dp => _ | .ho _ => _
         rw [uV]; exact ⟨g6, by rw [QG b hb5]; exact BI.g0, Kz⟩
theorem Ij {α β : Type} (f : α → β) : (l : List α) → (n : Nat) → nth (l.map f) n = (nth l n).map f
 | [], _ => rfl
 | _ :: _, 0 => rfl
 | _ :: l, n + 1 => Ij f l n
theorem mC (st : St) (s : Nat) : nth (rp st) s = (nth st s).map (OS st) := Ij _ _ _
theorem Cs (st : St) (a j g : Nat) : aQ (rp st) a j g = aQ st a j g := by
 unfold aQ; rw [mC]
 cases nth st a <;> rfl
theorem Ct (st : St) (a : Nat) : cD (rp st) a = cD st a := by
 unfold cD; rw [mC]
 cases nth st a <;> rfl
theorem Cu (st : St) (a : Nat) : fI (rp st) a = fI st a := by
 unfold fI; rw [mC]
 cases nth st a <;> rfl
theorem K2 (st : St) (a : Nat) : kU (rp st) a = kU st a := by
 unfold kU; rw [mC]
 cases nth st a <;> rfl
theorem Cv (st : St) (b g : Nat) : cX (rp st) b g = (cX st b g).map fun cs => cs.map (yA st) := by
 unfold cX; rw [mC]
 cases nth st b with
 | none => rfl
 | some x =>
   show (bif Nat.beq x.bg g then x.box.map _ else none) = _; simp only
   cases Nat.beq x.bg g <;> rfl
theorem Fw.rp (c : Cz) (st : St) (w : World) : Fw c st w c (rp st) w where
 stays := gH.refl w _
 refs a j g A' _ dL := by
   rw [Cs] at dL; exact ⟨A', dL, rfl, rfl, rfl, fun _ => ⟨rfl, fun _ _ _ _ => rfl⟩⟩
 zF b g lF _ h := by
   rw [Cv] at h; obtain ⟨cs, h1, _⟩ := Option.map_eq_some_iff.1 h; exact ⟨⟨cs, h1⟩, rfl⟩
 gA a := by rw [Ct]; exact Nat.le_refl _
 gB a := by rw [Cu]; exact Nat.le_refl _
 gE a := by rw [K2]; exact Nat.le_refl _
theorem EL {w0 : World} {mu : Mu} {c : Cz} {st : St} {a : Act} {w : World} (h : Rel w0 mu c st a w) {x : CV} {v : Value} (hr : ir c st w x v) : ir c st w (yA st x) v := by
 unfold yA
 split
 · split
   · rename_i A hA
     cases ho : A.own with
     | true => exact hr
     | false =>
       cases hm : A.md.is .sh with
       | false => exact hr
       | true =>
         have hm := Md.kh.1 hm; exact wR (h.qG hA) (hr.2.2 A hA) (ok := c.ok) (fun b h => h) (fun b q => by
           rcases q with q | q
           · rw [ho] at q; cases q
           · rw [hm] at q; cases q) (by rw [hm]; rfl)
   · exact hr
 · exact hr
theorem EM {w0 : World} {mu : Mu} {c : Cz} {st : St} {a : Act} {w : World} (h : Rel w0 mu c st a w) {cs : List CV} {vs : List Value} (hr : ek c st w cs vs) : ek c (rp st) w (cs.map (yA st)) vs := by
 refine ⟨by rw [List.length_map]; exact hr.1, fun i x v h1 h2 => ?_⟩; rw [List.getElem?_map] at h1; obtain ⟨y, hy, rfl⟩ := Option.map_eq_some_iff.1 h1; exact (Fw.rp c st w).Kq (EL h (hr.2 i y v hy h2))
theorem K3 {w0 : World} {mu : Mu} {c : Cz} {st : St} {a : Act} {w : World} (h : Rel w0 mu c st a w) {x : V} {v : Value} (hr : dV c st w x v) : dV c (rp st) w (Ko st x) v := by
 cases x with
 | one x => exact (Fw.rp c st w).Kq (EL h hr)
 | agg cs =>
   obtain ⟨vs, h1, h2⟩ := hr; exact ⟨vs, h1, EM h h2⟩
 | kV us => exact (Fw.rp c st w).kZ hr
theorem Rel.rp {w0 : World} {mu : Mu} {c : Cz} {st : St} {a : Act} {w : World} (h : Rel w0 mu c st a w) : Rel w0 mu c (rp st) a w where
 eO t := by
   have e : bI (Go.TM.rp st) t = Ko st (bI st t) := by
     unfold bI; rw [mC]
     cases nth st t <;> rfl
   rw [e]; exact K3 h (h.eO t)
 boxes s sl cs hs hb := by
   rw [mC] at hs; obtain ⟨x, hx, rfl⟩ := Option.map_eq_some_iff.1 hs; have hb : x.box.map (fun cs => cs.map (yA st)) = some cs := hb; obtain ⟨J4, hc, rfl⟩ := Option.map_eq_some_iff.1 hb; obtain ⟨k1, vs, ty, k2, k3⟩ := h.boxes s x J4 hx hc; exact ⟨k1, vs, ty, k2, EM h k3⟩
 aI s j sl A hs hb := by
   rw [mC] at hs; obtain ⟨x, hx, rfl⟩ := Option.map_eq_some_iff.1 hs; exact h.aI s j x A hx hb
 owned := h.owned
 free := h.free
 kept := h.kept
 old := h.old
 plain := h.plain
 dK p hp := by
   have h0 := h.dK p hp
   cases p with
   | arr a j g W n l =>
     refine ⟨by rw [Ct]; exact h0.1, fun A hA => ?_⟩; rw [Cs] at hA; exact h0.2 A hA
   | box b g lN =>
     refine ⟨by rw [Cu]; exact h0.1, fun cs tl => ?_⟩; rw [Cv] at tl; obtain ⟨J4, hc, _⟩ := Option.map_eq_some_iff.1 tl; exact h0.2 J4 hc
theorem EN {w0 : World} {mu : Mu} {c : Cz} {st : St} {a : Act} {w : World} (ms : List (Pm × V)) (h : Rel w0 mu c st a w) : Rel w0 mu c (yB ms st) a w ∧ ∀ x v, dV c st w x v → dV c (yB ms st) w x v := by
 unfold yB
 cases ms.any (fun m => m.1.Kp)
 · exact ⟨h, fun _ _ hr => hr⟩
 · exact ⟨h.rp, fun _ _ hr => (Fw.rp c st w).kZ hr⟩
theorem EO {P : Program} {S : hU} (hS : kr P S) {w0 : World} {mu : Mu} {c : Cz} {st aP : St} {a : Act} {w : World} (h : Rel w0 mu c st a w) {o : Oper} {f : FuncId} {vals : Array Value} {xs : List V}
   (mz : ∀ fn, P.funcs[f]? = some fn → fn.name ≠ "runtime.NumGoroutine" → fn.body ≠ none → (execOp a.eval o).run P w = .ok (.enter f vals) w)
   (H3 : xs.length = vals.toList.length) (Uf : ∀ (k : Nat) (m : V) (x : Value), xs[k]? = some m → vals.toList[k]? = some x → dV c st w m x)
   (hv : (Cd S st o.dst f xs).val = some aP) (hd : ∀ k, o.dst = some k → k < a.tmps.size) : tE P w0 mu aP o a w (oA S st f xs) := by
 unfold oA; unfold Cd at hv
 cases hf : S f with
 | none => simp [hf, N.val] at hv
 | some p =>
   obtain ⟨m1, m2, m3, yz⟩ := p; simp only [hf] at hv ⊢; obtain ⟨Je, fn, K4, YQ, Ug⟩ := hS f m1 m2 m3 yz hf; have mz := mz fn K4 (by simpa using YQ) (by intro e; rw [e] at Ug; cases Ug); have QH := Jd m1 m2 m3 xs; generalize sN m1 m2 m3 xs = ms at hv QH ⊢; have hlen : ms.length = vals.toList.length := by
     have := congrArg List.length QH; rw [List.length_map] at this; omega
   have tJ : ∀ (k : Nat) (m : Pm × V) (x : Value), ms[k]? = some m → vals.toList[k]? = some x → dV c st w m.2 x := by
     intro k m x hm hx; have h1 : (ms.map (·.2))[k]? = some m.2 := by rw [List.getElem?_map, hm]; rfl
     rw [QH] at h1; exact Uf k m.2 x h1 hx
   have hR := h.freeze (zT st ms); have yS : ∀ (k : Nat) (m : Pm × V) (x : Value), ms[k]? = some m → vals.toList[k]? = some x → dV (c.drop (zT st ms)) (freeze st (zT st ms)) w m.2 x := fun k m x h1 h2 => (Fw.freeze w _ c st).kZ (tJ k m x h1 h2)
   generalize freeze st (zT st ms) = Uh at hv hR yS ⊢; generalize c.drop (zT st ms) = c0 at hR yS; have yS : ∀ (k : Nat) (m : Pm × V) (x : Value), ms[k]? = some m → vals.toList[k]? = some x → dV c0 (yB ms Uh) w m.2 x := fun k m x h1 h2 => (EN ms hR).2 _ _ (yS k m x h1 h2)
   have hR := (EN ms hR).1; generalize yB ms Uh = tI at hv hR yS ⊢; unfold OR at hv
   cases re : j7 tI ms with
   | none =>
     rw [re] at hv; exact EG hR mz Je hlen yS hv hd (fun h => h) (fun c5 fG a2 w' hr _ _ Jf => by
       simp only [N.val, Option.some.injEq] at Jf; subst Jf; exact ⟨c5, hr⟩)
   | some p =>
     obtain ⟨x, A, l⟩ := p; rw [re] at hv; simp only at hv ⊢; have Ui : ∀ m ∈ ms, ∃ v, dV c0 tI w m.2 v := by
       intro m hm; obtain ⟨k, hk⟩ := List.mem_iff_getElem?.1 hm; have bP : k < vals.toList.length := by rw [← hlen]; exact (List.getElem?_eq_some_iff.1 hk).1
       exact ⟨_, yS k m _ hk (List.getElem?_eq_getElem bP)⟩
     obtain ⟨c1, gg, b, oo, cap, YR, XB, BI, EP⟩ := tL hR re Ui; obtain ⟨hl, hA, eH, uV, hep, oU, Ji, fk⟩ := xk re; refine EG YR mz Je (by rw [List.length_map]; exact hlen) (fun k m v h1 h2 => ?_) hv hd (fun h => by cases h) (fun c5 fG a2 w' hr hf J6 Jf => ?_)
     · rw [List.getElem?_map] at h1; obtain ⟨m0, hm0, rfl⟩ := Option.map_eq_some_iff.1 h1; exact EP m0 (List.mem_of_getElem? hm0) v (yS k m0 v hm0 h2)
     · refine K0 fk hA eH uV (hR.qG hA) Ji BI hr hf (fun k hk => ?_) Jf; have Jj : ¬ tK (dJ tI x A l) (x.a, x.j) := by
         rintro ⟨g', B, hB, Qp⟩
         obtain ⟨sl, k1, k2, k3⟩ := a7 hB; rw [tM fk, if_neg fk, if_pos rfl] at k1; obtain ⟨zz, QF, rfl⟩ := Option.map_eq_some_iff.1 k1; simp only at k3; rw [cL, if_pos rfl] at k3
         cases hq : nth zz.aI x.j with
         | none => rw [hq] at k3; cases k3
         | some B2 =>
           rw [hq] at k3; simp only [Option.map_some, Option.some.injEq] at k3; subst k3
           cases Qp
       cases hex : gq (dJ tI x A l) (ms.map (Nv (tI.length - 1) (lK tI (tI.length - 1) + 1) l)) with
       | none =>
         unfold D9 at hv; rw [hex] at hv
         cases hv
       | some pp =>
         obtain ⟨cN, u, q, r⟩ := pp; obtain ⟨l1, l2⟩ := yQ _ hex; exact J6 cN u q r hex k _ rfl (fun hm => Jj (l1 _ _ hm)) (fun p hp e => by
           injection e with e1 e2; exact Jj (by rw [e1, e2]; exact l2 p hp)) hk
theorem K5 {P : Program} {S : hU} (hS : kr P S) {w0 : World} {mu : Mu} {c : Cz} {st aP : St} {a : Act} {w : World} (h : Rel w0 mu c st a w) {o : Oper} {f : FuncId} {args : Array Operand} {I5 : Array TypeId} (ho : o.op = .call { callee := .value (.func f), args := args, argTypes := I5 })
   (hv : (Cd S st o.dst f (args.toList.map (jQ st))).val = some aP) (hd : ∀ k, o.dst = some k → k < a.tmps.size) : tE P w0 mu aP o a w (kindOk S st o .one) := by
 have YS : kindOk S st o .one = oA S st f (args.toList.map (jQ st)) := by unfold kindOk; simp only [ho]
 rw [YS]; refine EO (vals := args.map a.eval) hS h (fun fn K4 q2 q3 => ?_) (by simp) (fun k m x hm hx => ?_) hv hd
 · simp only [execOp, ho]; simp [resolve, Act.eval, Deferred.ofValue, invoke, callFunc, Sem.run_bind, K4, q2, q3]
 · rw [List.getElem?_map] at hm; rw [Array.toList_map, List.getElem?_map] at hx
   cases hy : args.toList[k]? with
   | none => rw [hy] at hm; simp at hm
   | some y =>
     rw [hy] at hm hx; simp only [Option.map_some, Option.some.injEq] at hm hx; rw [← hm, ← hx]; exact a8 h y
theorem K6 {P : Program} {S : hU} (hS : kr P S) {w0 : World} {mu : Mu} {c : Cz} {st aP : St} {a : Act} {w : World} (h : Rel w0 mu c st a w) {o : Oper} {t g : Nat} {rs : RT} {xs : List (ak rs)} {x : ak rs} {args : Array Operand} {I5 : Array TypeId} (ho : o.op = .call { callee := .value (.tmp t), args := args, argTypes := I5 })
   (ht : bI st t = .one (.fn g rs xs)) (Kt : xs[0]? = some x) (hv : (Cd S st o.dst g (args.toList.map (jQ st) ++ sO rs x)).val = some aP) (hd : ∀ k, o.dst = some k → k < a.tmps.size) : tE P w0 mu aP o a w (kindOk S st o .one) := by
 have YS : kindOk S st o .one = oA S st g (args.toList.map (jQ st) ++ sO rs x) := by unfold kindOk; simp only [ho, ht, Kt]
 rw [YS]; have Je := h.eO t; rw [ht] at Je; obtain ⟨uU, e, Uj⟩ := Je; obtain ⟨k1, k2⟩ := Ep (st := st) rs uU.toList x (Uj x Kt); refine EO (vals := args.map a.eval ++ uU) hS h (fun fn K4 q2 q3 => ?_) (by simp [k1]) (fun k m y hm hy => ?_) hv hd
 · simp only [execOp, ho]; simp [resolve, e, Deferred.ofValue, invoke, callFunc, Sem.run_bind, K4, q2, q3]
 · rw [Array.toList_append] at hy
   by_cases hk : k < args.size
   · rw [List.getElem?_append_left (by simpa using hk)] at hm hy; rw [List.getElem?_map] at hm; rw [Array.toList_map, List.getElem?_map] at hy
     cases hz : args.toList[k]? with
     | none => rw [hz] at hm; simp at hm
     | some z =>
       rw [hz] at hm hy; simp only [Option.map_some, Option.some.injEq] at hm hy; rw [← hm, ← hy]; exact a8 h z
   · rw [List.getElem?_append_right (by simp; omega)] at hm hy; simp only [List.length_map, Array.length_toList, Array.toList_map] at hm hy; exact k2 _ m y hm hy
theorem GC {P : Program} {T : jb} (hT : fh P T) {S : hU} {w0 : World} {mu : Mu} {c : Cz} {st aP : St} {a : Act} {w : World} (h : Rel w0 mu c st a w) {o : Oper} (re : Ea st o = true)
   (hv : (FX T S st o).val = some aP) (hd : ∀ k, o.dst = some k → k < a.tmps.size) : tE P w0 mu aP o a w (kindOk S st o .one) := by
 unfold Ea at re
 cases ho : o.op with
 | call cl =>
   obtain ⟨callee, args, I5⟩ := cl; rw [ho] at re
   cases callee with
   | builtin b =>
     cases b with
     | append =>
       unfold FX at hv; simp only [ho] at hv re
       split at hv
       · contradiction
       · rename_i x y t u _ ha ht; obtain ⟨Qv, wM⟩ := cQ hv; have Qv := Nat.eq_of_beq_eq_true Qv; subst Qv; have ha : args = #[x, y] := by rw [← Array.toArray_toList (xs := args), ha]
         have ht : I5 = #[t, t] := by rw [← Array.toArray_toList (xs := I5), ht]
         subst ha ht; have re : (j7 st [(.io, jQ st x)]).isSome = true := re; obtain ⟨p, hp⟩ := Option.isSome_iff_exists.1 re; obtain ⟨z, A, l⟩ := p; unfold C8 at wM; rw [hp] at wM; obtain ⟨c1, gg, b, oo, cap, YR, XB, BI, EP⟩ := tL h hp (fun m hm => by
           rw [List.mem_singleton] at hm; subst hm; exact ⟨_, a8 h x⟩)
         have hx := EP _ (List.mem_singleton.2 rfl) _ (a8 h x); have hy := XB.kZ (a8 h y); obtain ⟨v, w', h1, c', h2⟩ := Af (ty := o.type) hT YR hx hy wM hd; exact rE (c' := c') (by simp only [execOp, ho]; simp [resolve, invoke, builtin, Sem.run_bind, h1]) h2 (fun hk => by simp [kindOk, ho] at hk)
       all_goals (first | contradiction | (simp [N.val] at hv))
     | _ => simp at re
   | _ => simp at re
 | _ => rw [ho] at re; simp at re
theorem nY {P : Program} {T : jb} (hT : fh P T) (hE : uX P T) {S : hU} (hS : kr P S) (w0 : World) (mu : Mu) (n : Nat) : p9 P T S w0 mu n := by
 intro c st aP a w o h hn hd hv; have GB : ∀ k, o.dst = some k → k < a.tmps.size := fun k hk => by rw [hn]; exact hd k hk
 by_cases hf : Op.Gt o.op = true
 · cases ho : o.op with
   | call cl =>
     obtain ⟨callee, args, I5⟩ := cl
     cases callee with
     | value x =>
       cases x with
       | func f =>
         unfold FX at hv; simp only [ho] at hv; exact K5 hS h ho hv GB
       | tmp t =>
         unfold FX at hv; simp only [ho] at hv
         split at hv
         · rename_i g rs xs ht
           cases Kt : xs[0]? with
           | none => simp [Kt, N.val] at hv
           | some x =>
             simp only [Kt] at hv; exact K6 hS h ho ht Kt hv GB
         · simp [N.val] at hv
       | _ => rw [ho] at hf; simp [Op.Gt] at hf
     | _ => rw [ho] at hf; simp [Op.Gt] at hf
   | _ => rw [ho] at hf; simp [Op.Gt] at hf
 · cases re : Ea st o with
   | false => exact Qu hT hE h (by simpa using hf) re hv GB
   | true => exact GC hT h re hv GB
end Go.TM
namespace Go.TM
open Go Go.RowKit
inductive OP where
 | int (k : IntKind)
 | bool
 | str
 | own (r : RT) (d : Md := .sh)
 | shr (r : RT)
 | j6 (r : RT)
 | fn (g : Nat) (rs : RT)
inductive AP where
 | val (agg : Bool) (ps : List OP)
 | io (r : RT) (d : Md := .sh)
 | box (C4 : Bool) (ps : List OP)
 | bo (ps : List OP)
def OP.ty : OP → Ty
 | .int k => .int k
 | .bool => .bool
 | .str => .str
 | .own r _ => .sl r
 | .shr r => .sl r
 | .j6 r => .sl r
 | .fn _ rs => .sl rs
def OP.lL : OP → Bool
 | .own _ _ => true
 | _ => false
def jT : List OP → RT → RT
 | [], t => t
 | p :: ps, t => .cons p.ty (jT ps t)
def AP.rt : AP → RT → RT
 | .val _ ps, t => jT ps t
 | .io r _, t => .cons (.sl r) t
 | .box _ ps, t => jT ps t
 | .bo ps, t => jT ps t
def ar : List (Option AP) → RT
 | [] => .nil
 | none :: l => ar l
 | some p :: l => p.rt (ar l)
def OP.ov : (p : OP) → den p.ty → OV
 | .int k, n => .int k n
 | .bool, b => .bool b
 | .str, s => .str s
 | .own r d, xs => .own { r := r, own := true, xs := xs, md := d }
 | .shr r, xs => .shr r xs
 | .j6 r, xs => .j6 r xs
 | .fn g rs, xs => .fn g rs xs
def cM : (ps : List OP) → (t : RT) → ak (jT ps t) → List OV × ak t
 | [], _, x => ([], x)
 | p :: ps, t, x => (p.ov x.1 :: (cM ps t x.2).1, (cM ps t x.2).2)
def AP.av : (p : AP) → (t : RT) → ak (p.rt t) → AV × ak t
 | .val agg ps, t, x => (.val agg (cM ps t x).1, (cM ps t x).2)
 | .io r d, _, x => (.io { r := r, own := true, xs := x.1, md := d }, x.2)
 | .box _ ps, t, x => (.box (cM ps t x).1, (cM ps t x).2)
 | .bo ps, t, x => (.bo (cM ps t x).1, (cM ps t x).2)
def bM : (l : List (Option AP)) → ak (ar l) → List (Option AV)
 | [], _ => []
 | none :: l, x => none :: bM l x
 | some p :: l, x => some (p.av (ar l) x).1 :: bM l (p.av (ar l) x).2
def oY : (p : OP) → OV → Option (den p.ty)
 | .int k, .int l n => if k = l then some n else none
 | .bool, .bool b => some b
 | .str, .str s => some s
 | .own r d, .own A => bif A.md.is d then bn r A.xs else none
 | .own _ _, .di => some ([] : List _)
 | .shr r, .shr _ xs => bn r xs
 | .shr _, .di => some ([] : List _)
 | .j6 r, .j6 _ xs => bn r xs
 | .fn g rs, .fn f _ xs => bif Nat.beq f g then bn rs xs else none
 | _, _ => none
def cB : (ps : List OP) → (t : RT) → List OV → ak t → Option (ak (jT ps t))
 | [], _, [], y => some y
 | p :: ps, t, o :: os, y => match oY p o, cB ps t os y with
   | some x, some z => some (x, z)
   | _, _ => none
 | _, _, _, _ => none
def Cw : (p : AP) → (t : RT) → AV → ak t → Option (ak (p.rt t))
 | .val true ps, t, .val true os, y => cB ps t os y
 | .val false ps, t, .val false os, y => cB ps t os y
 | .io r d, _, .io A, y => bif A.md.is d then (match bn r A.xs with
   | some xs => some (xs, y)
   | none => none) else none
 | .box _ ps, t, .box os, y => cB ps t os y
 | .bo ps, t, .bo os, y => cB ps t os y
 | _, _, _, _ => none
def eo : (l : List AP) → List AV → Option (ak (ar (l.map some)))
 | [], [] => some ()
 | p :: l, a :: as => match eo l as with
   | some y => Cw p (ar (l.map some)) a y
   | none => none
 | _, _ => none
def ji (st : St) : (ps : List OP) → (t : RT) → List CV → ak t → Option (ak (jT ps t) × List (Option Lb) × List (Nat × Nat))
 | [], _, [], y => some (y, [], [])
 | p :: ps, t, c :: cs, y => match eU st p.lL c, ji st ps t cs y with
   | some (o, u, r), some (z, us, rs) => match oY p o with
     | some x => some ((x, z), u :: us, r ++ rs)
     | none => none
   | _, _ => none
 | _, _, _, _ => none
def yT (st : St) (k : Nat) : (p : AP) → (t : RT) → V → ak t → Option (ak (p.rt t) × List Lb × List (Nat × Nat))
 | .val agg ps, t, v, y =>
   match agg, v with
   | true, .agg cs => (ji st ps t cs y).map fun q => (q.1, bt q.2.1, q.2.2)
   | false, .one c => (ji st ps t [c] y).map fun q => (q.1, bt q.2.1, q.2.2)
   | _, _ => none
 | .io r d, _, v, y =>
   match v with
   | .one (.ref a j g .full) => bif Nat.beq a k && (Nat.beq j 0 && Nat.beq g 1) then ((aQ st a j g).bind fun A => bif A.own && A.md.is d then (bn r A.xs).map fun xs => ((xs, y), [.sp a j], []) else none) else none
   | _ => none
 | .box C4 ps, t, v, y =>
   match v with
   | .one (.ptr b g off) => bif Nat.beq off 0 && (!C4 || (Nat.beq b k && Nat.beq g 1)) then ((cX st b g).bind fun cs => (ji st ps t cs y).map fun q => (q.1, .box b :: bt q.2.1, q.2.2)) else none
   | _ => none
 | .bo _, _, _, _ => none
def lg (st : St) : (k : Nat) → (l : List (Option AP)) → Option (ak (ar l) × List Lb × List (Nat × Nat))
 | _, [] => some ((), [], [])
 | k, none :: l => lg st (k + 1) l
 | k, some p :: l => match lg st (k + 1) l with
   | some (y, us, rs) => match yT st k p (ar l) (bI st k) y with
     | some (x, u, r) => some (x, u ++ us, r ++ rs)
     | none => none
   | none => none
def Sl.blank : Sl := { v := .one .bad, box := .none, bg := 1, aI := [], ag := 1 }
def ch (k : Nat) : Option AV → Sl
 | none => Sl.blank
 | some (.bo os) => { v := .agg (aU k 1 0 os), box := none, bg := 1, aI := aV os, ag := 1 }
 | some (.val true os) => { v := .agg (aU k 1 0 os), box := none, bg := 1, aI := aV os, ag := 1 }
 | some (.val false os) => { v := match aU k 1 0 os with | [c] => .one c | _ => .one .bad, box := none, bg := 1, aI := aV os, ag := 1 }
 | some (.io A) => { v := .one (.ref k 0 1 .full), box := none, bg := 1, aI := [some A], ag := 1 }
 | some (.box os) => { v := .one (.ptr k 1 0), box := some (aU k 1 0 os), bg := 1, aI := aV os, ag := 1 }
def lO : (k : Nat) → List (Option AV) → St
 | _, [] => []
 | k, a :: l => ch k a :: lO (k + 1) l
theorem Cx : (l : List (Option AV)) → (k i : Nat) → nth (lO k l) i = (l[i]?).map (ch (k + i))
 | [], _, _ => by simp [lO]
 | a :: l, k, 0 => by simp [lO, nth]
 | a :: l, k, i + 1 => by
   simp only [lO, nth, List.getElem?_cons_succ]; rw [Cx l (k + 1) i, show k + 1 + i = k + (i + 1) by omega]
theorem ER {c : Cz} {w : World} {f : Nat → Lb} {j : Nat} : (p : OP) → (o : OV) → (x : den p.ty) → oY p o = some x → {os xd : List OV} → {vs : List Value} → (∀ l, ba c w f (j + 1) os l → ba c w f (j + 1) xd l) → ba c w f j (o :: os) vs → ba c w f j (p.ov x :: xd) vs
 | .int k, .int l n, x, hx, os, xd, vs, qo, h => by
   have hx : (if k = l then some (n : Int) else none) = some (x : Int) := hx
   by_cases e : k = l
   · rw [if_pos e] at hx; have hx : n = x := Option.some.inj hx; obtain ⟨l', h1, h2⟩ := h; exact ⟨l', by rw [h1, e, hx], qo _ h2⟩
   · rw [if_neg e] at hx
     cases hx
 | .bool, .bool b, x, hx, os, xd, vs, qo, h => by
   have hx : b = x := Option.some.inj hx; subst hx; obtain ⟨l', h1, h2⟩ := h; exact ⟨l', h1, qo _ h2⟩
 | .str, .str b, x, hx, os, xd, vs, qo, h => by
   have hx : b = x := Option.some.inj hx; subst hx; obtain ⟨l', h1, h2⟩ := h; exact ⟨l', h1, qo _ h2⟩
 | .own r d, .own A, x, hx, os, xd, vs, qo, h => by
   obtain ⟨v, l', h1, ⟨lc, h2⟩, h3⟩ := h; have hx : (bif A.md.is d then bn r A.xs else none) = some x := hx; obtain ⟨hd, hx⟩ := aD hx; have hd := Md.kh.1 hd; obtain ⟨e, rfl⟩ := aX hx; obtain ⟨r0, Gm, m6, Qq⟩ := A; simp only at e hd; subst e hd; have ho : Gm = true := h2.2.2.1; subst ho; exact ⟨v, l', h1, ⟨lc, h2⟩, qo _ h3⟩
 | .own r _, .di, x, hx, os, xd, vs, qo, h => by
   have hx : ([] : List (ak r)) = x := Option.some.inj hx; subst hx; obtain ⟨l', h1, h2⟩ := h; exact ⟨_, l', h1, ⟨.nil, rfl, ⟨rfl, rfl⟩, rfl, rfl⟩, qo _ h2⟩
 | .shr r, .shr q xs, x, hx, os, xd, vs, qo, h => by
   obtain ⟨v, l', h1, h2, h3⟩ := h; have hx : bn r xs = some x := hx; obtain ⟨e, rfl⟩ := aX hx; subst e; exact ⟨v, l', h1, h2, qo _ h3⟩
 | .shr r, .di, x, hx, os, xd, vs, qo, h => by
   have hx : ([] : List (ak r)) = x := Option.some.inj hx; subst hx; obtain ⟨l', h1, h2⟩ := h; exact ⟨_, l', h1, (lM _ _ _ _ _).2 (.inl ⟨rfl, rfl⟩), qo _ h2⟩
 | .j6 r, .j6 q xs, x, hx, os, xd, vs, qo, h => by
   obtain ⟨v, l', h1, h2, h3⟩ := h; have hx : bn r xs = some x := hx; obtain ⟨e, rfl⟩ := aX hx; subst e; exact ⟨v, l', h1, h2, qo _ h3⟩
 | .fn g r, .fn f q xs, x, hx, os, xd, vs, qo, h => by
   obtain ⟨v, l', h1, h2, h3⟩ := h; have hx : (bif Nat.beq f g then bn r xs else none) = some x := hx; obtain ⟨YT, hx⟩ := aD hx; have YT := Nat.eq_of_beq_eq_true YT; subst YT; obtain ⟨e, rfl⟩ := aX hx; subst e; exact ⟨v, l', h1, h2, qo _ h3⟩
 | .int _, .bool _, _, hx, _, _, _, _, _ => by cases hx
 | .int _, .str _, _, hx, _, _, _, _, _ => by cases hx
 | .int _, .own _, _, hx, _, _, _, _, _ => by cases hx
 | .int _, .shr _ _, _, hx, _, _, _, _, _ => by cases hx
 | .int _, .di, _, hx, _, _, _, _, _ => by cases hx
 | .int _, .j6 _ _, _, hx, _, _, _, _, _ => by cases hx
 | .int _, .fn _ _ _, _, hx, _, _, _, _, _ => by cases hx
 | .bool, .int _ _, _, hx, _, _, _, _, _ => by cases hx
 | .bool, .str _, _, hx, _, _, _, _, _ => by cases hx
 | .bool, .own _, _, hx, _, _, _, _, _ => by cases hx
 | .bool, .shr _ _, _, hx, _, _, _, _, _ => by cases hx
 | .bool, .di, _, hx, _, _, _, _, _ => by cases hx
 | .bool, .j6 _ _, _, hx, _, _, _, _, _ => by cases hx
 | .bool, .fn _ _ _, _, hx, _, _, _, _, _ => by cases hx
 | .str, .int _ _, _, hx, _, _, _, _, _ => by cases hx
 | .str, .bool _, _, hx, _, _, _, _, _ => by cases hx
 | .str, .own _, _, hx, _, _, _, _, _ => by cases hx
 | .str, .shr _ _, _, hx, _, _, _, _, _ => by cases hx
 | .str, .di, _, hx, _, _, _, _, _ => by cases hx
 | .str, .j6 _ _, _, hx, _, _, _, _, _ => by cases hx
 | .str, .fn _ _ _, _, hx, _, _, _, _, _ => by cases hx
 | .own _ _, .int _ _, _, hx, _, _, _, _, _ => by cases hx
 | .own _ _, .bool _, _, hx, _, _, _, _, _ => by cases hx
 | .own _ _, .str _, _, hx, _, _, _, _, _ => by cases hx
 | .own _ _, .shr _ _, _, hx, _, _, _, _, _ => by cases hx
 | .own _ _, .j6 _ _, _, hx, _, _, _, _, _ => by cases hx
 | .own _ _, .fn _ _ _, _, hx, _, _, _, _, _ => by cases hx
 | .shr _, .int _ _, _, hx, _, _, _, _, _ => by cases hx
 | .shr _, .bool _, _, hx, _, _, _, _, _ => by cases hx
 | .shr _, .str _, _, hx, _, _, _, _, _ => by cases hx
 | .shr _, .own _, _, hx, _, _, _, _, _ => by cases hx
 | .shr _, .j6 _ _, _, hx, _, _, _, _, _ => by cases hx
 | .shr _, .fn _ _ _, _, hx, _, _, _, _, _ => by cases hx
 | .j6 _, .int _ _, _, hx, _, _, _, _, _ => by cases hx
 | .j6 _, .bool _, _, hx, _, _, _, _, _ => by cases hx
 | .j6 _, .str _, _, hx, _, _, _, _, _ => by cases hx
 | .j6 _, .own _, _, hx, _, _, _, _, _ => by cases hx
 | .j6 _, .shr _ _, _, hx, _, _, _, _, _ => by cases hx
 | .j6 _, .di, _, hx, _, _, _, _, _ => by cases hx
 | .j6 _, .fn _ _ _, _, hx, _, _, _, _, _ => by cases hx
 | .fn _ _, .int _ _, _, hx, _, _, _, _, _ => by cases hx
 | .fn _ _, .bool _, _, hx, _, _, _, _, _ => by cases hx
 | .fn _ _, .str _, _, hx, _, _, _, _, _ => by cases hx
 | .fn _ _, .own _, _, hx, _, _, _, _, _ => by cases hx
 | .fn _ _, .shr _ _, _, hx, _, _, _, _, _ => by cases hx
 | .fn _ _, .di, _, hx, _, _, _, _, _ => by cases hx
 | .fn _ _, .j6 _ _, _, hx, _, _, _, _, _ => by cases hx
theorem qN {c : Cz} {w : World} {f : Nat → Lb} : (ps : List OP) → (t : RT) → (os : List OV) → (y : ak t) → {x : ak (jT ps t)} → cB ps t os y = some x → (cM ps t x).2 = y ∧ ∀ (j : Nat) (vs : List Value), ba c w f j os vs → ba c w f j (cM ps t x).1 vs
 | [], t, [], y, x, h => by
   have h : y = x := Option.some.inj h; subst h; exact ⟨rfl, fun _ _ h => h⟩
 | [], _, _ :: _, _, _, h => by simp [cB] at h
 | _ :: _, _, [], _, _, h => by simp [cB] at h
 | p :: ps, t, o :: os, y, x, h => by
   unfold cB at h
   cases h1 : oY p o with
   | none => simp [h1] at h
   | some a =>
     cases h2 : cB ps t os y with
     | none => simp [h1, h2] at h
     | some z =>
       simp only [h1, h2] at h; have h : (a, z) = x := Option.some.inj h; subst h; obtain ⟨g1, g2⟩ := qN (c := c) (w := w) (f := f) ps t os y h2; exact ⟨g1, fun j vs hh => ER p o a h1 (fun l => g2 (j + 1) l) hh⟩
theorem ba.K8 {c : Cz} {w : World} {f : Nat → Lb} : (os : List OV) → (j : Nat) → (vs : List Value) → ba c w f j os vs → vs.length = os.length ∧ ∀ (k : Nat) (o : OV) (u : Value), os[k]? = some o → vs[k]? = some u → ba c w f (j + k) [o] [u]
 | [], j, vs, h => by
   subst h; exact ⟨rfl, fun k o u h => by simp at h⟩
 | o :: os, j, vs, h => by
   obtain ⟨v, l, rfl, h1, h2⟩ : ∃ v l, vs = v :: l ∧ ba c w f j [o] [v] ∧ ba c w f (j + 1) os l := by
     cases o with
     | int k n => obtain ⟨l, h1, h2⟩ := h; exact ⟨_, l, h1, ⟨[], rfl, rfl⟩, h2⟩
     | bool b => obtain ⟨l, h1, h2⟩ := h; exact ⟨_, l, h1, ⟨[], rfl, rfl⟩, h2⟩
     | str b => obtain ⟨l, h1, h2⟩ := h; exact ⟨_, l, h1, ⟨[], rfl, rfl⟩, h2⟩
     | di => obtain ⟨l, h1, h2⟩ := h; exact ⟨_, l, h1, ⟨[], rfl, rfl⟩, h2⟩
     | shr r xs => obtain ⟨v, l, h1, h2, h3⟩ := h; exact ⟨v, l, h1, ⟨v, [], rfl, h2, rfl⟩, h3⟩
     | j6 r xs => obtain ⟨v, l, h1, h2, h3⟩ := h; exact ⟨v, l, h1, ⟨v, [], rfl, h2, rfl⟩, h3⟩
     | fn g r xs => obtain ⟨v, l, h1, h2, h3⟩ := h; exact ⟨v, l, h1, ⟨v, [], rfl, h2, rfl⟩, h3⟩
     | own A => obtain ⟨v, l, h1, h2, h3⟩ := h; exact ⟨v, l, h1, ⟨v, [], rfl, h2, rfl⟩, h3⟩
   obtain ⟨g1, g2⟩ := ba.K8 os (j + 1) l h2; refine ⟨by simp [g1], fun k o' u ho hu => ?_⟩
   cases k with
   | zero =>
     simp only [List.getElem?_cons_zero, Option.some.injEq] at ho hu; subst ho hu; exact h1
   | succ k =>
     have := g2 k o' u (by simpa using ho) (by simpa using hu)
     rwa [show j + 1 + k = j + (k + 1) by omega] at this
theorem Cy : (ps : List OP) → (t : RT) → (os : List OV) → (y : ak t) → {x : ak (jT ps t)} → cB ps t os y = some x → ∀ (k : Nat) (o' : OV), (cM ps t x).1[k]? = some o' → ∃ (p : OP) (o : OV) (z : den p.ty), os[k]? = some o ∧ oY p o = some z ∧ o' = p.ov z
 | [], t, [], y, x, h => by
   intro k o' hk; simp [cM] at hk
 | [], _, _ :: _, _, _, h => by simp [cB] at h
 | _ :: _, _, [], _, _, h => by simp [cB] at h
 | p :: ps, t, o :: os, y, x, h => by
   unfold cB at h
   cases h1 : oY p o with
   | none => simp [h1] at h
   | some a =>
     cases h2 : cB ps t os y with
     | none => simp [h1, h2] at h
     | some z =>
       simp only [h1, h2] at h; have h : (a, z) = x := Option.some.inj h; subst h; intro k o' hk
       cases k with
       | zero =>
         have hk : some (p.ov a) = some o' := hk; simp only [Option.some.injEq] at hk; exact ⟨p, o, a, rfl, h1, hk.symm⟩
       | succ k =>
         have hk : (cM ps t z).1[k]? = some o' := hk; obtain ⟨p', o1, z', q1, q2, q3⟩ := Cy ps t os y h2 k o' hk; exact ⟨p', o1, z', by simpa using q1, q2, q3⟩
theorem Jk {p : OP} {o : OV} {z : den p.ty} (h : oY p o = some z) {A : fK} (he : p.ov z = .own A) : (∃ B, o = .own B ∧ A.r = B.r ∧ A.own = true ∧ A.xs.length = B.xs.length ∧ (B.own = true → A = B)) ∨ (o = .di ∧ ∃ r d, A = { r := r, own := true, xs := ([] : List (ak r)), md := d }) := by
 cases p with
 | own r d =>
   injection he with he; subst he
   cases o with
   | own B =>
     have h : (bif B.md.is d then bn r B.xs else none) = some z := h; obtain ⟨hd, h⟩ := aD h; have hd := Md.kh.1 hd; obtain ⟨e, rfl⟩ := aX h; obtain ⟨r0, Gm, m6, Qq⟩ := B; simp only at e hd; subst e hd; exact .inl ⟨_, rfl, rfl, rfl, rfl, fun ho => by simp only at ho; subst ho; rfl⟩
   | di =>
     have h : ([] : List (ak r)) = z := Option.some.inj h; subst h; exact .inr ⟨rfl, r, d, rfl⟩
   | _ => cases h
 | int _ => cases he
 | bool => cases he
 | str => cases he
 | shr _ => cases he
 | j6 _ => cases he
 | fn _ _ => cases he
theorem ES {p : OP} (z : den p.ty) : p.ov z ≠ .di := by
 cases p <;> (intro h; cases h)
theorem ET {c : Cz} {w : World} {i : Nat} {lc : Nat → Loc} {p : AP} {t : RT} {av : AV} {y : ak t} {x : ak (p.rt t)} (h : Cw p t av y = some x) : (p.av t x).2 = y ∧ ∀ v, qa c w i lc av v → qa c w i lc (p.av t x).1 v := by
 cases p with
 | val agg ps =>
   cases agg with
   | true =>
     cases av with
     | val NT os =>
       cases NT with
       | true =>
         have h : cB ps t os y = some x := h; obtain ⟨g1, g2⟩ := qN (c := c) (w := w) (f := .bB i) ps t os y h; exact ⟨g1, fun v ⟨vs, hv, hl⟩ => ⟨vs, hv, g2 0 _ hl⟩⟩
       | false => cases h
     | _ => cases h
   | false =>
     cases av with
     | val NT os =>
       cases NT with
       | false =>
         have h : cB ps t os y = some x := h; obtain ⟨g1, g2⟩ := qN (c := c) (w := w) (f := .bB i) ps t os y h; exact ⟨g1, fun v hl => g2 0 _ hl⟩
       | true => cases h
     | _ => cases h
 | io r d =>
   cases av with
   | io A =>
     have h : (bif A.md.is d then (match bn r A.xs with | some xs => some ((xs, y) : ak (.cons (.sl r) t)) | none => none) else none) = some x := h; obtain ⟨hd, h⟩ := aD h; have hd := Md.kh.1 hd
     cases hc : bn r A.xs with
     | none => rw [hc] at h; cases h
     | some xs =>
       rw [hc] at h
       cases h
       refine ⟨rfl, fun v hl => ?_⟩; obtain ⟨e, rfl⟩ := aX hc; obtain ⟨r0, Gm, m6, Qq⟩ := A; simp only at e hd; subst e hd; have ho : Gm = true := hl.2.2.1; subst ho; exact hl
   | _ => cases h
 | box C4 ps =>
   cases av with
   | box os =>
     have h : cB ps t os y = some x := h; obtain ⟨g1, g2⟩ := qN (c := c) (w := w) (f := .bB i) ps t os y h; exact ⟨g1, fun v ⟨lN, vs, ty, q1, q2, q3, q4⟩ => ⟨lN, vs, ty, q1, q2, q3, g2 0 _ q4⟩⟩
   | _ => cases h
 | bo ps =>
   cases av with
   | bo os =>
     have h : cB ps t os y = some x := h; obtain ⟨g1, g2⟩ := qN (c := c) (w := w) (f := .bB i) ps t os y h; refine ⟨g1, fun v ⟨vs, q1, q2, q3⟩ => ⟨vs, q1, g2 0 _ q2, fun j o u ho hu => ?_⟩⟩; obtain ⟨p, o0, z, k1, k2, rfl⟩ := Cy ps t os y h j o ho; have h0 := q3 j o0 u k1 hu; have hL := (ba.K8 os 0 _ q2).2 j o0 u k1 hu; unfold KM at h0 ⊢
     cases he : p.ov z with
     | di => exact absurd he (ES z)
     | own A =>
       rcases Jk k2 he with ⟨B, rfl, e1, e2, e3, e4⟩ | ⟨rfl, r, d, rfl⟩
       · have h0 : OwnAt c w (.bB i j) (lc j) B u := h0; have := e4 h0.2.2.1; subst this; exact h0
       · have h0 : lc j = .nil := h0; obtain ⟨l, hl, _⟩ := hL; injection hl with hl _; subst hl; show OwnAt c w (.bB i j) (lc j) _ _; rw [h0]; exact ⟨rfl, ⟨rfl, rfl⟩, rfl, rfl⟩
     | _ => trivial
   | _ => cases h
end Go.TM
namespace Go.TM
open Go Go.RowKit
theorem tN {w0 : World} {mu : Mu} {c : Cz} {st : St} {a : Act} {w : World} (h : Rel w0 mu c st a w) {ρ : Lb → Option Lb} {f : Nat → Lb} : (ps : List OP) → (t : RT) → (cs : List CV) → (y : ak t) → (vs : List Value) → (j : Nat) → ek c st w cs vs → {x : ak (jT ps t)} → {u : List (Option Lb)} → {r : List (Nat × Nat)} →
   ji st ps t cs y = some (x, u, r) → (cM ps t x).2 = y ∧ (∀ l ∈ bt u, l.real = true) ∧ ((∀ k l, nth u k = some (some l) → ρ l = some (f (j + k))) → (∀ p ∈ r, ρ (.sp p.1 p.2) = none) → ba (c.map ρ) w f j (cM ps t x).1 vs)
 | [], t, [], y, vs, j, hl, x, u, r, he => by
   have he : some (y, ([] : List (Option Lb)), ([] : List (Nat × Nat))) = some (x, u, r) := he; injection he with he; injection he with e1 e2; injection e2 with e2 e3; subst e1 e2 e3; have := hl.1; simp at this; exact ⟨rfl, by simp [bt], fun _ _ => List.length_eq_zero_iff.1 this.symm⟩
 | [], t, _ :: _, y, vs, j, hl, x, u, r, he => by simp [ji] at he
 | _ :: _, t, [], y, vs, j, hl, x, u, r, he => by simp [ji] at he
 | p :: ps, t, cx :: cs, y, vs, j, hl, x, u, r, he => by
   obtain ⟨v, l, rfl, hx, vi⟩ := hl.OX; unfold ji at he
   cases hc : eU st p.lL cx with
   | none => simp [hc] at he
   | some q1 =>
     obtain ⟨o, u1, r1⟩ := q1
     cases hq : ji st ps t cs y with
     | none => simp [hc, hq] at he
     | some q2 =>
       obtain ⟨z, us, rs⟩ := q2; simp only [hc, hq] at he
       cases ho : oY p o with
       | none => simp [ho] at he
       | some a1 =>
         simp only [ho] at he; injection he with he; injection he with e1 e2; injection e2 with e2 e3; subst e1 e2 e3; obtain ⟨g1, g2, g3⟩ := tN h (ρ := ρ) (f := f) ps t cs y l (j + 1) vi hq; refine ⟨g1, fun l' hm => ?_, fun hu hr => ?_⟩
         · rw [fC] at hm; rcases List.mem_cons.1 hm with hm | hm
           · obtain ⟨s, k, rfl⟩ := Cm hc l' hm.symm; rfl
           · exact g2 l' (fC.2 hm)
         · have ez := g3 (fun k' l' hk => by
             have := hu (k' + 1) l' hk
             rwa [show j + (k' + 1) = j + 1 + k' by omega] at this) (fun p hp => hr p (List.mem_append_right _ hp))
           have h1 := Ie h (f := f) (j := j) hx hc (fun l' vi => hu 0 l' (by rw [vi]; rfl)) (fun p hp => hr p (List.mem_append_left _ hp)) ez; exact ER p o a1 ho (fun _ h => h) h1
def yf (c : Cz) (w : World) (lc : Nat → Nat → Loc) (a : Act) (k : Nat) (l : List (Option AV)) : Prop :=
 ∀ i av, l[i]? = some (some av) → qa c w (k + i) (lc (k + i)) av (a.eval (.tmp (k + i)))
theorem xm {w0 : World} {mu : Mu} {c : Cz} {st : St} {a : Act} {w : World} (h : Rel w0 mu c st a w) (k : Nat) {p : AP} {t : RT} {V : V} {y : ak t} {v : Value} (hV : dV c st w V v) {x : ak (p.rt t)} {u : List Lb} {r : List (Nat × Nat)} (he : yT st k p t V y = some (x, u, r)) :
   (p.av t x).2 = y ∧ (∀ l ∈ u, l.real = true) ∧ ∃ tb : List (Lb × Lb), tb.map (·.1) = u ∧ (∀ p ∈ tb, p.2.iO = true) ∧ ∀ ρ : Lb → Option Lb, (∀ p ∈ tb, ρ p.1 = some p.2) → (∀ p ∈ r, ρ (.sp p.1 p.2) = none) → qa (c.map ρ) w k (c.lc k) (p.av t x).1 v := by
 have vals : ∀ (ps : List OP) (cs : List CV) (x : ak (jT ps t)) (us : List (Option Lb)) (rs : List (Nat × Nat)) (vs : List Value), ek c st w cs vs → ji st ps t cs y = some (x, us, rs) → (cM ps t x).2 = y ∧ (∀ l ∈ bt us, l.real = true) ∧
     ∀ ρ : Lb → Option Lb, (∀ p ∈ xg (.bB k) 0 us, ρ p.1 = some p.2) → (∀ p ∈ rs, ρ (.sp p.1 p.2) = none) → ba (c.map ρ) w (.bB k) 0 (cM ps t x).1 vs := by
   intro ps cs x us rs vs hl hq; refine ⟨(tN h (ρ := fun _ => none) (f := .bB k) ps t cs y vs 0 hl hq).1, (tN h (ρ := fun _ => none) (f := .bB k) ps t cs y vs 0 hl hq).2.1, fun ρ hp hr => (tN h (ρ := ρ) (f := .bB k) ps t cs y vs 0 hl hq).2.2 (fun k' l hk => ?_) hr⟩; have := hp _ (tG (.bB k) 0 us k' l hk); simpa using this
 cases p with
 | val agg ps =>
   cases agg with
   | true =>
     cases V with
     | agg cs =>
       have he : (ji st ps t cs y).map (fun q => (q.1, bt q.2.1, q.2.2)) = some (x, u, r) := he
       cases hq : ji st ps t cs y with
       | none => rw [hq] at he; cases he
       | some q =>
         obtain ⟨z, us, rs⟩ := q; rw [hq] at he; injection he with he; injection he with e1 e2; injection e2 with e2 e3; subst e1 e2 e3; obtain ⟨vs, rfl, hl⟩ := hV; obtain ⟨g1, g2, g3⟩ := vals _ _ _ _ _ _ hl hq; exact ⟨g1, g2, hZ k (.val true []) [] us, ko _ _ _ _, kq _ _ _ _, fun ρ hp hr => ⟨vs, rfl, g3 ρ (fun p jh => hp p (by simpa [hZ] using jh)) hr⟩⟩
     | one _ => cases he
     | kV _ => cases he
   | false =>
     cases V with
     | one cx =>
       have he : (ji st ps t [cx] y).map (fun q => (q.1, bt q.2.1, q.2.2)) = some (x, u, r) := he
       cases hq : ji st ps t [cx] y with
       | none => rw [hq] at he; cases he
       | some q =>
         obtain ⟨z, us, rs⟩ := q; rw [hq] at he; injection he with he; injection he with e1 e2; injection e2 with e2 e3; subst e1 e2 e3; obtain ⟨g1, g2, g3⟩ := vals _ _ _ _ _ [v] ⟨rfl, fun k y z hy hz => by
           cases k with
           | zero => simp at hy hz; subst hy hz; exact hV
           | succ k => simp at hy⟩ hq
         exact ⟨g1, g2, hZ k (.val true []) [] us, ko _ _ _ _, kq _ _ _ _, fun ρ hp hr => g3 ρ (fun p jh => hp p (by simpa [hZ] using jh)) hr⟩
     | agg _ => cases he
     | kV _ => cases he
 | io rr d =>
   cases V with
   | one cx =>
     cases cx with
     | ref s j g vw =>
       cases vw with
       | full =>
         have he : (bif Nat.beq s k && (Nat.beq j 0 && Nat.beq g 1) then ((aQ st s j g).bind fun A => bif A.own && A.md.is d then (bn rr A.xs).map fun xs => ((xs, y), [Lb.sp s j], ([] : List (Nat × Nat))) else none) else none) = some (x, u, r) := he; obtain ⟨h1, uY⟩ := aD he; clear he; rw [Bool.and_eq_true, Bool.and_eq_true] at h1; have e1 := Nat.eq_of_beq_eq_true h1.1; have e2 := Nat.eq_of_beq_eq_true h1.2.1; subst e1 e2
         cases hA : aQ st s 0 g with
         | none => rw [hA] at uY; cases uY
         | some A =>
           rw [hA] at uY; obtain ⟨ho, SP⟩ := aD uY; rw [Bool.and_eq_true] at ho; have hd := Md.kh.1 ho.2; have ho := ho.1
           cases hc : bn rr A.xs with
           | none => rw [hc] at SP; cases SP
           | some xs =>
             rw [hc] at SP; injection SP with SP; injection SP with e1 e2; injection e2 with e2 e3; subst e1 e2 e3; refine ⟨rfl, by simp [Lb.real], [(.sp s 0, .bB s 0)], rfl, by simp [Lb.iO], fun ρ hp _ => ?_⟩; have ha := uH h hA; have hs := hV.2.2 A hA; have hρ : ρ (.sp s 0) = some (.bB s 0) := hp (.sp s 0, .bB s 0) (by simp); obtain ⟨e, rfl⟩ := aX hc; obtain ⟨r0, Gm, m6, Qq⟩ := A; simp only at e hd; subst e hd; have ho : Gm = true := by first | exact ho | exact ho.1
             subst ho; refine ⟨hV.1, hs, rfl, ?_⟩; unfold bA at ha
             cases fN : c.lc s 0 with
             | nil => rw [fN] at ha; exact ha
             | «at» b off cap =>
               rw [fN] at ha; obtain ⟨h0, h2, h3, h4⟩ := ha; exact ⟨(Cz.iT h0).trans hρ, h2, h3, h4.map hρ⟩
       | «from» _ => cases he
       | sub _ _ => cases he
     | _ => cases he
   | agg _ => cases he
   | kV _ => cases he
 | box C4 ps =>
   cases V with
   | one cx =>
     cases cx with
     | ptr b g off =>
       have he : (bif Nat.beq off 0 && (!C4 || (Nat.beq b k && Nat.beq g 1)) then ((cX st b g).bind fun cs => (ji st ps t cs y).map fun q => (q.1, Lb.box b :: bt q.2.1, q.2.2)) else none) = some (x, u, r) := he; obtain ⟨h1, uY⟩ := aD he; clear he; rw [Bool.and_eq_true] at h1; have e1 := Nat.eq_of_beq_eq_true h1.1; subst e1
       cases hb : cX st b g with
       | none => rw [hb] at uY; cases uY
       | some cs =>
         rw [hb] at uY; simp only [Option.bind_some] at uY
         cases hq : ji st ps t cs y with
         | none => rw [hq] at uY; cases uY
         | some q =>
           obtain ⟨z, us, rs⟩ := q; rw [hq] at uY; injection uY with uY; injection uY with e1 e2; injection e2 with e2 e3; subst e1 e2 e3; obtain ⟨sl, k1, k2, k3⟩ := fM hb; obtain ⟨h1, vs, ty, h2, h3⟩ := h.boxes b sl cs k1 k3; obtain ⟨g1, g2, g3⟩ := vals _ _ _ _ _ _ h3 hq; refine ⟨g1, fun l hl => ?_, hZ k (.box []) [.box b] us, by rw [ko]; rfl, kq _ _ _ _, fun ρ hp hr => ⟨c.bx b, vs, ty, hV.2.2 cs hb, ?_, h2, g3 ρ (fun p jh => hp p (List.mem_append_right _ jh)) hr⟩⟩
           · rcases List.mem_cons.1 hl with rfl | hl
             · rfl
             · exact g2 l hl
           · exact (Cz.iT h1).trans (hp (.box b, .qD k) (by simp [hZ]))
     | _ => cases he
   | agg _ => cases he
   | kV _ => cases he
 | bo ps => cases he
theorem tO {w0 : World} {mu : Mu} {c : Cz} {st : St} {a : Act} {w : World} (h : Rel w0 mu c st a w) : (l : List (Option AP)) → (k : Nat) → {x : ak (ar l)} → {u : List Lb} → {r : List (Nat × Nat)} → lg st k l = some (x, u, r) →
   (∀ l ∈ u, l.real = true) ∧ ∃ tb : List (Lb × Lb), tb.map (·.1) = u ∧ (∀ p ∈ tb, p.2.iO = true) ∧ ∀ ρ : Lb → Option Lb, (∀ p ∈ tb, ρ p.1 = some p.2) → (∀ p ∈ r, ρ (.sp p.1 p.2) = none) → yf (c.map ρ) w c.lc a k (bM l x)
 | [], k, x, u, r, he => by
   have he : some ((), ([] : List Lb), ([] : List (Nat × Nat))) = some (x, u, r) := he; injection he with he; injection he with _ e2; injection e2 with e2 e3; subst e2 e3; exact ⟨by simp, [], rfl, by simp, fun ρ _ _ i av hi => by simp [bM] at hi⟩
 | none :: l, k, x, u, r, he => by
   obtain ⟨g1, tb, g2, g3, g4⟩ := tO h l (k + 1) he; refine ⟨g1, tb, g2, g3, fun ρ hp hr i av hi => ?_⟩
   cases i with
   | zero => simp [bM] at hi
   | succ i =>
     have := g4 ρ hp hr i av (by simpa [bM] using hi)
     rwa [show k + 1 + i = k + (i + 1) by omega] at this
 | some p :: l, k, x, u, r, he => by
   unfold lg at he
   cases h1 : lg st (k + 1) l with
   | none => simp [h1] at he
   | some q1 =>
     obtain ⟨y, us, rs⟩ := q1; simp only [h1] at he
     cases h2 : yT st k p (ar l) (bI st k) y with
     | none => simp [h2] at he
     | some q2 =>
       obtain ⟨x1, u1, r1⟩ := q2; simp only [h2] at he; injection he with he; injection he with e1 e2; injection e2 with e2 e3; subst e1 e2 e3; obtain ⟨g1, tb, g2, g3, g4⟩ := tO h l (k + 1) h1; obtain ⟨a1, a2, ta, a3, a4, a5⟩ := xm h k (h.eO k) h2; refine ⟨fun l' hl => ?_, ta ++ tb, by simp [a3, g2], fun p hp => ?_, fun ρ hp hr i av hi => ?_⟩
       · rcases List.mem_append.1 hl with hl | hl
         · exact a2 l' hl
         · exact g1 l' hl
       · rcases List.mem_append.1 hp with hp | hp
         · exact a4 p hp
         · exact g3 p hp
       · cases i with
         | zero =>
           have hi : some (some (p.av (ar l) x1).1) = some (some av) := hi; simp only [Option.some.injEq] at hi; subst hi; exact a5 ρ (fun p jh => hp p (List.mem_append_left _ jh)) (fun p jh => hr p (List.mem_append_left _ jh))
         | succ i =>
           have hi : (bM l (p.av (ar l) x1).2)[i]? = some (some av) := hi; rw [a1] at hi; have := g4 ρ (fun p jh => hp p (List.mem_append_right _ jh)) (fun p jh => hr p (List.mem_append_right _ jh)) i av hi
           rwa [show k + 1 + i = k + (i + 1) by omega] at this
end Go.TM
namespace Go.TM
open Go Go.RowKit
def K9 (L : List (Option AV)) (lc : Nat → Nat → Loc) (a : Act) : IM → Prop
 | .arr i j g W n l => g = 1 ∧ i < L.length ∧ ∀ av, L[i]? = some (some av) → (∃ A, av = .io A ∧ (j = 0 → A.r.width = W ∧ A.xs.length = n ∧ lc i 0 = l)) ∨ ∃ os, av = .bo os ∧ ∀ A, os[j]? = some (.own A) → A.r.width = W ∧ A.xs.length = n ∧ lc i j = l
 | .box i g lN => g = 1 ∧ i < L.length ∧ ∀ os, L[i]? = some (some (.box os)) → a.eval (.tmp i) = .pointer (some ⟨lN, 0, none⟩)
def La : Lb → Lb
 | .bB i j => .sp i j
 | .qD i => .box i
 | l => l
structure Lc (c : Cz) (w : World) (k : Nat) (av : Option AV) (u : Value) (lio : Nat → Loc) (lN : Nat) (lcs : Nat → Loc) : Prop where
 arr : ∀ j A, nth (ch k av).aI j = some (some A) → ∃ v, OwnAt c w (.bB k j) (lcs j) A v
 reg : ∀ (c2 : Cz) (fG : St), (∀ b, c.ok b → c2.ok b) → c2.bx k = lN → c2.lc k = lcs → nth fG k = some (ch k av) → dV c2 fG w (ch k av).v u
 box : ∀ cs, (ch k av).box = some cs → u = .pointer (some ⟨lN, 0, none⟩) ∧ c.own lN = some (.qD k) ∧ ∃ vs ty, w.heap[lN]? = some (.cells vs ty (0, 0)) ∧
   ∀ (c2 : Cz) (fG : St), (∀ b, c.ok b → c2.ok b) → c2.lc k = lcs → nth fG k = some (ch k av) → ek c2 fG w cs vs.toList
 io : ∀ A, av = some (.io A) → lcs 0 = lio 0
 bo : ∀ os, av = some (.bo os) → lcs = lio
theorem oC {st : St} {k j : Nat} {av : Option AV} {A : fK} (h : nth st k = some (ch k av)) (hA : aQ st k j 1 = some A) : nth (ch k av).aI j = some (some A) := by
 obtain ⟨sl, h1, _, h3⟩ := a7 hA; rw [h] at h1; cases h1; exact h3
theorem oD {st : St} {k : Nat} {av : Option AV} (h : nth st k = some (ch k av)) : cD st k = 1 := by
 unfold cD; rw [h]
 cases av with
 | none => rfl
 | some av => cases av with
   | val agg os => cases agg <;> rfl
   | io A => rfl
   | box os => rfl
   | bo os => rfl
theorem CA {st : St} {k : Nat} {av : Option AV} (h : nth st k = some (ch k av)) : fI st k = 1 := by
 unfold fI; rw [h]
 cases av with
 | none => rfl
 | some av => cases av with
   | val agg os => cases agg <;> rfl
   | io A => rfl
   | box os => rfl
   | bo os => rfl
theorem xn : (os : List OV) → (j : Nat) → {A : fK} → nth (aV os) j = some (some A) → os[j]? = some (.own A)
 | [], _, _, h => by simp [aV] at h
 | o :: os, 0, A, h => by
   simp only [aV, nth, Option.some.injEq] at h
   cases o with
   | own B => injection h with h; subst h; rfl
   | _ => cases h
 | o :: os, j + 1, A, h => by
   have := xn os j (A := A) h; simpa using this
theorem CB {d g : Nat} : (os : List OV) → (j k : Nat) → (o : OV) → os[k]? = some o → ∃ x, aU d g (j + k) [o] = [x] ∧ (aU d g j os)[k]? = some x
 | [], _, _, _, h => by simp at h
 | o :: os, j, 0, o', h => by
   simp only [List.getElem?_cons_zero, Option.some.injEq] at h; subst h
   cases o <;> exact ⟨_, rfl, rfl⟩
 | o :: os, j, k + 1, o', h => by
   obtain ⟨x, h1, h2⟩ := CB (d := d) (g := g) os (j + 1) k o' (by simpa using h); rw [show j + 1 + k = j + (k + 1) by omega] at h1; refine ⟨x, h1, ?_⟩
   cases o <;> simpa [aU] using h2
theorem AD {d g : Nat} : (os : List OV) → (j : Nat) → (aU d g j os).length = os.length
 | [], _ => rfl
 | o :: os, j => by cases o <;> simp [aU, AD os (j + 1)]
theorem ba.Ld {c : Cz} {w : World} {f : Nat → Lb} {os : List OV} {vs : List Value} (h : ba c w f 0 os vs) (lcs : Nat → Loc) (ho : ∀ k A u, os[k]? = some (.own A) → vs[k]? = some u → ∃ l, OwnAt c w l (lcs k) A u)
   (c2 : Cz) (fG : St) (d g : Nat) (ff : ∀ b, c.ok b → c2.ok b) (fN : ∀ k, c2.lc d k = lcs k) (x6 : ∀ k A, aQ fG d k g = some A → os[k]? = some (.own A)) (hg : g ≤ cD fG d) : ek c2 fG w (aU d g 0 os) vs := by
 obtain ⟨h1, h2⟩ := ba.K8 os 0 vs h; refine ⟨by rw [AD, h1], fun k x v hx hv => ?_⟩; have bP : k < os.length := by rw [← h1]; exact (List.getElem?_eq_some_iff.1 hv).1
 have Gy : os[k]? = some os[k] := List.getElem?_eq_getElem bP; obtain ⟨y, q1, q2⟩ := CB (d := d) (g := g) os 0 k _ Gy; rw [q2] at hx
 cases hx
 have hL := h2 k _ v Gy hv; rw [Nat.zero_add] at q1; generalize os[k] = o at *
 cases o with
 | own A =>
   simp only [aU, List.cons.injEq, and_true] at q1; subst q1; obtain ⟨l, hO⟩ := ho k A v Gy hv; refine ⟨hO.1, hg, fun A' dL => ?_⟩; have := x6 k A' dL; rw [Gy] at this
   cases this
   rw [fN]; exact hO.2.1
 | shr r xs =>
   simp only [aU, List.cons.injEq, and_true] at q1; subst q1; obtain ⟨v', l, e, h3, _⟩ := hL
   cases e
   exact bz.stays ⟨Nat.le_refl _, fun _ _ _ => rfl, fun b _ hb => ff b hb⟩ _ _ _ h3
 | j6 r xs =>
   simp only [aU, List.cons.injEq, and_true] at q1; subst q1; obtain ⟨v', l, e, ⟨b, oo, e1, e2, e3, e4⟩, _⟩ := hL
   cases e
   exact ⟨b, oo, e1, e2, ff b e3, fun x hx => bU.stays ⟨Nat.le_refl _, fun _ _ _ => rfl, fun b _ hb => ff b hb⟩ _ _ _ _ rfl (e4 x hx)⟩
 | fn fg r xs =>
   simp only [aU, List.cons.injEq, and_true] at q1; subst q1; obtain ⟨v', l, e, h3, _⟩ := hL
   cases e
   exact h3.stays ⟨Nat.le_refl _, fun _ _ _ => rfl, fun b _ hb => ff b hb⟩
 | _ =>
   simp only [aU, List.cons.injEq, and_true] at q1; subst q1; obtain ⟨l, e, _⟩ := hL
   cases e
   rfl
theorem NU {c : Cz} {w : World} {k : Nat} {lio : Nat → Loc} {av : Option AV} {u : Value} (h : ∀ v, av = some v → qa c w k lio v u) : ∃ lN lcs, Lc c w k av u lio lN lcs := by
 cases av with
 | none => exact ⟨0, fun _ => .nil, fun j A hA => by simp [ch, Sl.blank] at hA, fun c2 fG _ _ _ _ => trivial, fun cs tl => by simp [ch, Sl.blank] at tl, fun A hA => (by cases hA), fun A hA => (by cases hA)⟩
 | some av =>
   have h := h av rfl
   cases av with
   | val agg os =>
     cases agg with
     | true =>
       obtain ⟨vs, rfl, hl⟩ := h; obtain ⟨lcs, g1, g2⟩ := ba.cells os 0 _ hl; simp only [Nat.zero_add] at g1 g2; refine ⟨0, lcs, fun j A hA => g1 j A hA, fun c2 fG ff _ fN hn => ⟨vs, rfl, ?_⟩, fun cs tl => by simp [ch] at tl, fun A hA => (by cases hA), fun A hA => (by cases hA)⟩; exact g2 c2 fG k 1 ff (fun j _ => by rw [fN]) (fun j A _ hA => oC hn hA) (by rw [oD hn]; exact Nat.le_refl _)
     | false =>
       have hl : ba c w (.bB k) 0 os [u] := h; obtain ⟨lcs, g1, g2⟩ := ba.cells os 0 _ hl; simp only [Nat.zero_add] at g1 g2; refine ⟨0, lcs, fun j A hA => g1 j A hA, fun c2 fG ff _ fN hn => ?_, fun cs tl => by simp [ch] at tl, fun A hA => (by cases hA), fun A hA => (by cases hA)⟩; have hR := g2 c2 fG k 1 ff (fun j _ => by rw [fN]) (fun j A _ hA => oC hn hA) (by rw [oD hn]; exact Nat.le_refl _); show dV c2 fG w (match aU k 1 0 os with | [c] => .one c | _ => .one .bad) u; have h1 := hR.1
       cases hc : aU k 1 0 os with
       | nil => trivial
       | cons x l => cases l with
         | nil => rw [hc] at hR; exact hR.2 0 x u rfl rfl
         | cons _ _ => trivial
   | io A =>
     have hO : OwnAt c w (.bB k 0) (lio 0) A u := h; refine ⟨0, lio, fun j A' dL => ?_, fun c2 fG ff _ fN hn => ?_, fun cs tl => by simp [ch] at tl, fun A hA => rfl, fun A hA => by cases hA⟩
     · cases j with
       | zero => simp [ch, nth] at dL; subst dL; exact ⟨u, hO⟩
       | succ j => simp [ch, nth] at dL
     · refine ⟨hO.1, by rw [oD hn]; exact Nat.le_refl _, fun A' dL => ?_⟩; have := oC hn dL; simp [ch, nth] at this; subst this; rw [fN]; exact hO.2.1
   | bo os =>
     obtain ⟨vs, rfl, hl, KX⟩ := h; have eH : ∀ j A u, os[j]? = some (.own A) → vs.toList[j]? = some u → OwnAt c w (.bB k j) (lio j) A u := fun j A u h1 h2 => KX j _ u h1 h2
     obtain ⟨n1, _⟩ := ba.K8 os 0 _ hl; refine ⟨0, lio, fun j A' dL => ?_, fun c2 fG ff _ fN hn => ⟨vs, rfl, ?_⟩, fun cs tl => by simp [ch] at tl, fun A hA => (by cases hA), fun xd _ => rfl⟩
     · have hj := xn os j dL; have bP : j < vs.toList.length := by rw [n1]; exact (List.getElem?_eq_some_iff.1 hj).1
       exact ⟨_, eH j A' _ hj (List.getElem?_eq_getElem bP)⟩
     · exact ba.Ld hl lio (fun j A u h1 h2 => ⟨_, eH j A u h1 h2⟩) c2 fG k 1 ff (fun j => by rw [fN]) (fun j A hA => xn os j (oC hn hA)) (by rw [oD hn]; exact Nat.le_refl _)
   | box os =>
     obtain ⟨lN, vs, ty, h1, h2, h3, hl⟩ := h; obtain ⟨lcs, g1, g2⟩ := ba.cells os 0 _ hl; simp only [Nat.zero_add] at g1 g2; refine ⟨lN, lcs, fun j A hA => g1 j A hA, fun c2 fG ff zw fN hn => ⟨by rw [h1]; rfl, by rw [CA hn]; exact Nat.le_refl _, fun cs _ => by rw [zw]; exact h1⟩, fun cs tl => ⟨h1, h2, vs, ty, h3, fun c2 fG ff fN hn => ?_⟩, fun A hA => (by cases hA), fun A hA => (by cases hA)⟩; simp only [ch, Option.some.injEq] at tl; subst tl; exact g2 c2 fG k 1 ff (fun j _ => by rw [fN]) (fun j A _ hA => oC hn hA) (by rw [oD hn]; exact Nat.le_refl _)
theorem Rel.Ik {w0 : World} {mu : Mu} {c : Cz} {a : Act} {w : World} {L : List (Option AV)} {lc : Nat → Nat → Loc} (hb : yL w0 mu c w) (hd : a.defers = []) (hL : yf c w lc a 0 L) (hA : ∀ p ∈ mu.an, K9 L lc a p) : ∃ c', Rel w0 mu c' (lO 0 L) a w := by
 have NR : ∀ k, ∃ q : Nat × (Nat → Loc), Lc c w k ((L[k]?).getD none) (a.eval (.tmp k)) (lc k) q.1 q.2 := by
   intro k; obtain ⟨lN, lcs, h⟩ := NU (c := c) (w := w) (k := k) (lio := lc k) (av := (L[k]?).getD none) (u := a.eval (.tmp k)) (fun v hv => by
     have := hL k v (by
       cases hq : L[k]? with
       | none => rw [hq] at hv; cases hv
       | some o => rw [hq] at hv; simp at hv; rw [hv])
     simpa using this)
   exact ⟨(lN, lcs), h⟩
 obtain ⟨q, hq⟩ := Classical.axiomOfChoice NR; have hn : ∀ k, nth (lO 0 L) k = (L[k]?).map (ch k) := fun k => by have := Cx L 0 k; simpa using this
 have IV : ∀ k sl, nth (lO 0 L) k = some sl → ∃ o, L[k]? = some o ∧ sl = ch k o ∧ nth (lO 0 L) k = some (ch k ((L[k]?).getD none)) ∧ (L[k]?).getD none = o := by
   intro k sl h; rw [hn] at h
   cases ho : L[k]? with
   | none => rw [ho] at h; cases h
   | some o =>
     rw [ho] at h
     cases h
     refine ⟨o, rfl, rfl, ?_, rfl⟩; rw [hn, ho]; rfl
 let c' := c.dD La (fun k => (q k).1) (fun k => (q k).2)
 have ff : ∀ b, c.ok b → c'.ok b := fun b hb => Cz.j8.2 hb
 refine ⟨c', fun t => ?_, fun s sl cs hs zw => ?_, fun s j sl A hs dL => ?_, fun b l hl => ?_, fun b bP hl => hb.free b bP (by simpa [c', Cz.dD] using hl), hb.kept, hb.old, hd, fun p hp => ?_⟩
 · cases hs : nth (lO 0 L) t with
   | none =>
     have : bI (lO 0 L) t = .one .bad := by unfold bI; rw [hs]
     rw [this]; trivial
   | some sl =>
     obtain ⟨o, h1, rfl, h3, h4⟩ := IV t sl hs; have : bI (lO 0 L) t = (ch t ((L[t]?).getD none)).v := by unfold bI; rw [h3]
     rw [this]; exact (hq t).reg c' (lO 0 L) ff rfl rfl h3
 · obtain ⟨o, h1, rfl, h3, h4⟩ := IV s sl hs; rw [← h4] at zw; obtain ⟨g1, g2, vs, ty, g3, g4⟩ := (hq s).box cs zw; refine ⟨?_, vs, ty, g3, g4 c' (lO 0 L) ff rfl h3⟩; show (c.own (q s).1).map La = _; rw [g2]; rfl
 · obtain ⟨o, h1, rfl, h3, h4⟩ := IV s sl hs; rw [← h4] at dL; obtain ⟨v, hv⟩ := (hq s).arr j A dL; exact hv.arr rfl rfl
 · simp only [c', Cz.dD, Option.map_eq_some_iff] at hl; obtain ⟨k, hk, e⟩ := hl; obtain ⟨h1, h2⟩ := hb.owned b k hk; refine ⟨h1, h2.imp (fun e2 => ?_) id⟩; subst e2; rw [← e]; rfl
 · have hf := hA p hp
   cases p with
   | arr i j g W n l =>
     obtain ⟨rfl, hi, EF⟩ := hf; have hs : nth (lO 0 L) i = some (ch i ((L[i]?).getD none)) := by rw [hn]; simp [List.getElem?_eq_getElem hi]
     refine ⟨by rw [oD hs]; exact Nat.le_refl _, fun A dL => ?_⟩; have h3 := oC hs dL
     cases ho : L[i]? with
     | none => rw [ho] at h3; simp [ch, Sl.blank] at h3
     | some o => cases o with
       | none => rw [ho] at h3; simp [ch, Sl.blank] at h3
       | some av =>
         rcases EF av ho with ⟨A0, rfl, h5⟩ | ⟨os, rfl, h5⟩
         case inr =>
           rw [ho] at h3; obtain ⟨e1, e2, e3⟩ := h5 A (xn os j h3); refine ⟨e1, e2, ?_⟩; rw [← e3]; have := (hq i).bo os (by rw [ho]; rfl); show (q i).2 j = lc i j; rw [this]
         rw [ho] at h3
         cases j with
         | zero =>
           simp [ch, nth] at h3; subst h3; obtain ⟨e1, e2, e3⟩ := h5 rfl; exact ⟨e1, e2, ((hq i).io A0 (by rw [ho]; rfl)).trans e3⟩
         | succ j => simp [ch, nth] at h3
   | box i g lN =>
     obtain ⟨rfl, hi, EF⟩ := hf; have hs : nth (lO 0 L) i = some (ch i ((L[i]?).getD none)) := by rw [hn]; simp [List.getElem?_eq_getElem hi]
     refine ⟨by rw [CA hs]; exact Nat.le_refl _, fun cs tl => ?_⟩; obtain ⟨sl, k1, k2, k3⟩ := fM tl; rw [hs] at k1; cases k1; obtain ⟨g1, _⟩ := (hq i).box cs k3; have qo : ∃ os, L[i]? = some (some (.box os)) := by
       cases ho : L[i]? with
       | none => rw [ho] at k3; simp [ch, Sl.blank] at k3
       | some o => cases o with
         | none => rw [ho] at k3; simp [ch, Sl.blank] at k3
         | some av => cases av with
           | val agg os => rw [ho] at k3; cases agg <;> simp [ch] at k3
           | io A => rw [ho] at k3; simp [ch] at k3
           | bo os => rw [ho] at k3; simp [ch] at k3
           | box os => exact ⟨os, rfl⟩
     obtain ⟨os, qo⟩ := qo; have := EF os qo; rw [this] at g1; injection g1 with g1; injection g1 with g1; injection g1 with g1; exact g1.symm
end Go.TM
namespace Go.TM
open Go Go.RowKit
inductive Src where
 | tmp (t : Nat)
 | cell (t : Nat)
 | ptr (t : Nat)  -- F3 struct behind a pointer, abU is iO back
structure RP where
 src : Src
 agg : Bool
 ps : List OP
def bQ : List RP → RT → RT
 | [], t => t
 | r :: rs, t => jT r.ps (bQ rs t)
def oZ : List OP → RT → RT
 | [], t => t
 | .own r _ :: ps, t => .cons (.sl r) (oZ ps t)
 | .int _ :: ps, t => oZ ps t
 | .bool :: ps, t => oZ ps t
 | .str :: ps, t => oZ ps t
 | .shr _ :: ps, t => oZ ps t
 | .j6 _ :: ps, t => oZ ps t
 | .fn _ _ :: ps, t => oZ ps t
def bc : List AP → RT
 | [] => .nil
 | .val _ _ :: l => bc l
 | .io r _ :: l => .cons (.sl r) (bc l)
 | .box _ ps :: l => jT ps (bc l)
 | .bo ps :: l => oZ ps (bc l)
def RP.cells (st : St) (r : RP) : Option (List CV) :=
 match r.src with
 | .tmp t => match bI st t with
   | .agg cs => bif r.agg then some cs else none
   | .one c => bif r.agg then none else some [c]
   | .kV _ => none
 | .cell t => match bI st t with
   | .one (.ptr b g off) => bif Nat.beq off 0 then cX st b g else none
   | _ => none
 | .ptr t => match bI st t with
   | .one (.ptr b g off) => bif Nat.beq off 0 then cX st b g else none
   | _ => none
def RP.SQ (st : St) (r : RP) : List (Option Lb) :=
 match r.src with
 | .ptr t => (match bI st t with | .one (.ptr b _ _) => [some (.box b)] | _ => [])
 | _ => []
def AE (st : St) : (rs : List RP) → (t : RT) → ak t → Option (ak (bQ rs t) × List (Option Lb) × List (Nat × Nat))
 | [], _, y => some (y, [], [])
 | r :: rs, t, y => (r.cells st).bind fun cs => (AE st rs t y).bind fun q => (ji st r.ps (bQ rs t) cs q.1).map fun p => (p.1, r.SQ st ++ (p.2.1 ++ q.2.1), p.2.2 ++ q.2.2)
def jU (st : St) (i : Nat) : (j : Nat) → (ps : List OP) → (t : RT) → ak t → Option (ak (oZ ps t) × List Lb)
 | _, [], _, y => some (y, [])
 | j, .own r d :: ps, t, y => (jU st i (j + 1) ps t y).bind fun q => (aQ st i j 1).bind fun A => bif A.own && A.md.is d then (bn r A.xs).map fun xs => ((xs, q.1), .sp i j :: q.2) else none
 | j, .int _ :: ps, t, y => jU st i (j + 1) ps t y
 | j, .bool :: ps, t, y => jU st i (j + 1) ps t y
 | j, .str :: ps, t, y => jU st i (j + 1) ps t y
 | j, .shr _ :: ps, t, y => jU st i (j + 1) ps t y
 | j, .j6 _ :: ps, t, y => jU st i (j + 1) ps t y
 | j, .fn _ _ :: ps, t, y => jU st i (j + 1) ps t y
def qu (st : St) : (i : Nat) → (ps : List AP) → Option (ak (bc ps) × List Lb × List (Nat × Nat))
 | _, [] => some ((), [], [])
 | i, .val _ _ :: l => qu st (i + 1) l
 | i, .io r d :: l => (qu st (i + 1) l).bind fun q => (yT st i (.io r d) (bc l) (.one (.ref i 0 1 .full)) q.1).map fun p => (p.1, p.2.1 ++ q.2.1, p.2.2 ++ q.2.2)
 | i, .box _ ps :: l => (qu st (i + 1) l).bind fun q => (yT st i (.box true ps) (bc l) (.one (.ptr i 1 0)) q.1).map fun p => (p.1, p.2.1 ++ q.2.1, p.2.2 ++ q.2.2)
 | i, .bo ps :: l => (qu st (i + 1) l).bind fun q => (jU st i 0 ps (bc l) q.1).map fun p => (p.1, p.2 ++ q.2.1, q.2.2)
def xo (rs : List RP) (ps : List AP) : Ex → St → Option (ak (bQ rs (bc ps)))
 | .exit _, _ => none
 | _, st => (qu st 0 ps).bind fun x => (AE st rs (bc ps) x.1).bind fun q => bif rj (bt q.2.1 ++ x.2.1) && apart (bt q.2.1 ++ x.2.1) (q.2.2 ++ x.2.2) then some q.1 else none
def RP.rv (r : RP) (os : List OV) : RV :=
 match r.src with
 | .ptr _ => .ptr os
 | _ => match r.agg, os with
   | false, [o] => .one o
   | _, os => .agg os
def eV : (rs : List RP) → (t : RT) → ak (bQ rs t) → List RV × ak t
 | [], _, x => ([], x)
 | r :: rs, t, x => (r.rv (cM r.ps (bQ rs t) x).1 :: (eV rs t (cM r.ps (bQ rs t) x).2).1, (eV rs t (cM r.ps (bQ rs t) x).2).2)
def kH : (ps : List OP) → (t : RT) → ak (oZ ps t) → List (Option fK) × ak t
 | [], _, x => ([], x)
 | .own r d :: ps, t, x => (some { r := r, own := true, xs := x.1, md := d } :: (kH ps t x.2).1, (kH ps t x.2).2)
 | .int _ :: ps, t, x => (none :: (kH ps t x).1, (kH ps t x).2)
 | .bool :: ps, t, x => (none :: (kH ps t x).1, (kH ps t x).2)
 | .str :: ps, t, x => (none :: (kH ps t x).1, (kH ps t x).2)
 | .shr _ :: ps, t, x => (none :: (kH ps t x).1, (kH ps t x).2)
 | .j6 _ :: ps, t, x => (none :: (kH ps t x).1, (kH ps t x).2)
 | .fn _ _ :: ps, t, x => (none :: (kH ps t x).1, (kH ps t x).2)
def kt : (ps : List AP) → ak (bc ps) → List XV
 | [], _ => []
 | .val _ _ :: l, x => kt l x
 | .io r d :: l, x => .io { r := r, own := true, xs := x.1, md := d } :: kt l x.2
 | .box _ ps :: l, x => .box (cM ps (bc l) x).1 :: kt l (cM ps (bc l) x).2
 | .bo ps :: l, x => .bo (kH ps (bc l) x).1 :: kt l (kH ps (bc l) x).2
def jV (ps : List AP) (rs : List RP) (t : ak (ar (ps.map some)) → Option (ak (bQ rs (bc ps)))) : td := fun cN =>
 match eo ps cN with
 | some x => some { r := bQ rs (bc ps), o := t x, res := fun y => { outs := (eV rs (bc ps) y).1, exts := kt ps (eV rs (bc ps) y).2 } }
 | none => none
theorem gZ {st : St} {i : Nat} : (ps : List OP) → (j : Nat) → (t : RT) → (y : ak t) → {x : ak (oZ ps t)} → {u : List Lb} → jU st i j ps t y = some (x, u) → (kH ps t x).2 = y ∧ (∀ l ∈ u, ∃ k, l = .sp i k) ∧
   ∀ (k : Nat) (r : RT) (d : Md), ps[k]? = some (.own r d) → ∃ A xs, aQ st i (j + k) 1 = some A ∧ A.own = true ∧ A.md = d ∧ bn r A.xs = some xs ∧ nth (kH ps t x).1 k = some (some { r := r, own := true, xs := xs, md := d }) ∧ .sp i (j + k) ∈ u
 | [], j, t, y, x, u, h => by
   injection h with h; injection h with e1 e2; subst e1 e2; exact ⟨rfl, by simp, fun k r d hk => by simp at hk⟩
 | .own r d :: ps, j, t, y, x, u, h => by
   unfold jU at h; obtain ⟨q, hq, h⟩ := Option.bind_eq_some_iff.1 h; obtain ⟨A, hA, h⟩ := Option.bind_eq_some_iff.1 h; obtain ⟨ho, h⟩ := aD h; rw [Bool.and_eq_true] at ho; obtain ⟨xs, O4, h⟩ := Option.map_eq_some_iff.1 h; injection h with e1 e2; subst e1 e2; obtain ⟨z, us⟩ := q; obtain ⟨g1, g2, g3⟩ := gZ ps (j + 1) t y hq; refine ⟨g1, fun l hl => ?_, fun k r' d' hk => ?_⟩
   · rcases List.mem_cons.1 hl with rfl | hl
     · exact ⟨j, rfl⟩
     · exact g2 l hl
   · cases k with
     | zero =>
       simp only [List.getElem?_cons_zero, Option.some.injEq, OP.own.injEq] at hk; obtain ⟨rfl, rfl⟩ := hk; exact ⟨A, xs, hA, ho.1, Md.kh.1 ho.2, O4, rfl, List.mem_cons_self⟩
     | succ k =>
       obtain ⟨A', TC, k1, k2, kd, k3, k4, k5⟩ := g3 k r' d' (by simpa using hk); rw [show j + 1 + k = j + (k + 1) by omega] at k1 k5; exact ⟨A', TC, k1, k2, kd, k3, k4, List.mem_cons_of_mem _ k5⟩
 | .int _ :: ps, j, t, y, x, u, h => iI (gZ ps (j + 1) t y h) (by simp) (fun k => rfl)
 | .bool :: ps, j, t, y, x, u, h => iI (gZ ps (j + 1) t y h) (by simp) (fun k => rfl)
 | .str :: ps, j, t, y, x, u, h => iI (gZ ps (j + 1) t y h) (by simp) (fun k => rfl)
 | .shr _ :: ps, j, t, y, x, u, h => iI (gZ ps (j + 1) t y h) (by simp) (fun k => rfl)
 | .j6 _ :: ps, j, t, y, x, u, h => iI (gZ ps (j + 1) t y h) (by simp) (fun k => rfl)
 | .fn _ _ :: ps, j, t, y, x, u, h => iI (gZ ps (j + 1) t y h) (by simp) (fun k => rfl)
where
 iI {st : St} {i j : Nat} {p : OP} {ps : List OP} {D : Type} {y z : D} {L L' : List (Option fK)} {u : List Lb} (h : z = y ∧ (∀ l ∈ u, ∃ k, l = .sp i k) ∧ ∀ (k : Nat) (r : RT) (d : Md), ps[k]? = some (.own r d) → ∃ A xs, aQ st i (j + 1 + k) 1 = some A ∧ A.own = true ∧ A.md = d ∧ bn r A.xs = some xs ∧ nth L k = some (some { r := r, own := true, xs := xs, md := d }) ∧ .sp i (j + 1 + k) ∈ u)
     (hp : ∀ r d, p ≠ .own r d) (hL : ∀ k, nth L' (k + 1) = nth L k) : z = y ∧ (∀ l ∈ u, ∃ k, l = .sp i k) ∧ ∀ (k : Nat) (r : RT) (d : Md), (p :: ps)[k]? = some (.own r d) → ∃ A xs, aQ st i (j + k) 1 = some A ∧ A.own = true ∧ A.md = d ∧ bn r A.xs = some xs ∧ nth L' k = some (some { r := r, own := true, xs := xs, md := d }) ∧ .sp i (j + k) ∈ u := by
   obtain ⟨h1, h2, h3⟩ := h; refine ⟨h1, h2, fun k r d hk => ?_⟩
   cases k with
   | zero =>
     simp only [List.getElem?_cons_zero, Option.some.injEq] at hk; exact absurd hk (hp r d)
   | succ k =>
     obtain ⟨A', TC, k1, k2, kd, k3, k4, k5⟩ := h3 k r d (by simpa using hk); rw [show j + 1 + k = j + (k + 1) by omega] at k1 k5; exact ⟨A', TC, k1, k2, kd, k3, by rw [hL]; exact k4, k5⟩
theorem CC {st : St} : (ps : List OP) → (t : RT) → (cs : List CV) → (y : ak t) → {x : ak (jT ps t)} → {u : List (Option Lb)} → {r : List (Nat × Nat)} → ji st ps t cs y = some (x, u, r) → u.length = ps.length ∧ cs.length = ps.length ∧ (cM ps t x).1.length = ps.length
 | [], t, [], y, x, u, r, h => by
   injection h with h; injection h with e1 e2; injection e2 with e2 e3; subst e1 e2 e3; exact ⟨rfl, rfl, rfl⟩
 | [], t, _ :: _, y, x, u, r, h => by simp [ji] at h
 | _ :: _, t, [], y, x, u, r, h => by simp [ji] at h
 | p :: ps, t, c :: cs, y, x, u, r, h => by
   unfold ji at h
   cases hc : eU st p.lL c with
   | none => simp [hc] at h
   | some q1 =>
     obtain ⟨o, u1, r1⟩ := q1
     cases hq : ji st ps t cs y with
     | none => simp [hc, hq] at h
     | some q2 =>
       obtain ⟨z, us, rs⟩ := q2; simp only [hc, hq] at h
       cases ho : oY p o with
       | none => simp [ho] at h
       | some a1 =>
         simp only [ho] at h; injection h with h; injection h with e1 e2; injection e2 with e2 e3; subst e1 e2 e3; obtain ⟨g1, g2, g3⟩ := CC ps t cs y hq; exact ⟨by simp [g1], by simp [g2], by simp [cM, g3]⟩
def Le (T : jb) (fr : Array Value) : ResultVar → RP → Prop
 | .tmp t, r => r.src = .tmp t ∨ r.src = .ptr t
 | .cell t ty, r => r.src = .cell t ∧ T.cells ty = some r.ps.length ∧ T.agg ty = r.agg
def AF (tm : Array Value) : ResultVar → Sem Value
 | .tmp t => pure (tm.getD t undef)
 | .cell a t => do loadVar t (← asAddr (tm.getD a undef))
theorem RP.Lf {P : Program} {T : jb} (hT : fh P T) {w0 : World} {mu : Mu} {c : Cz} {st : St} {a : Act} {w : World} (h : Rel w0 mu c st a w) {r : RP} {rv : ResultVar} (hr : Le T a.tmps rv r) {cs : List CV} (hc : r.cells st = some cs) (hn : cs.length = r.ps.length) :
   ∃ vs v, ek c st w cs vs ∧ (AF a.tmps rv).run P w = .ok v w ∧ (((∀ t, r.src ≠ .ptr t) ∧ ((r.agg = true ∧ v = .agg vs.toArray) ∨ (r.agg = false ∧ (vs = [v])))) ∨
     (∃ t b ty us, r.src = .ptr t ∧ r.SQ st = [some (.box b)] ∧ v = .pointer (some ⟨c.bx b, 0, none⟩) ∧ c.own (c.bx b) = some (.box b) ∧ w.heap[c.bx b]? = some (.cells us ty (0, 0)) ∧ vs = us.toList)) := by
 unfold RP.cells at hc
 cases rv with
 | tmp t =>
   rcases (hr : r.src = .tmp t ∨ r.src = .ptr t) with hs | hs
   case inr =>
     rw [hs] at hc; have qL := h.eO t; simp only at hc
     cases hv : bI st t with
     | kV _ => rw [hv] at hc; cases hc
     | agg l => rw [hv] at hc; cases hc
     | one x =>
       cases x with
       | ptr b g off =>
         rw [hv] at hc qL; obtain ⟨ho, hb⟩ := aD hc; have ho := Nat.eq_of_beq_eq_true ho; subst ho; obtain ⟨sl, k1, k2, k3⟩ := fM hb; obtain ⟨q1, vs, ty', q2, q3⟩ := h.boxes b sl cs k1 k3; have e : a.tmps.getD t undef = .pointer (some ⟨c.bx b, 0, none⟩) := qL.2.2 cs hb; refine ⟨vs.toList, a.tmps.getD t undef, q3, rfl, .inr ⟨t, b, ty', vs, hs, ?_, e, q1, q2, rfl⟩⟩; unfold RP.SQ; rw [hs]; simp only [hv]
       | _ => rw [hv] at hc; cases hc
   rw [hs] at hc; have qL := h.eO t; simp only at hc
   cases hv : bI st t with
   | kV _ => rw [hv] at hc; cases hc
   | agg l =>
     rw [hv] at hc qL; obtain ⟨Il, hc1⟩ := aD hc
     cases hc1
     obtain ⟨vs, e, hl⟩ := qL; exact ⟨vs.toList, a.eval (.tmp t), hl, rfl, .inl ⟨fun t' e' => (by rw [hs] at e'; cases e'), .inl ⟨Il, by rw [e]⟩⟩⟩
   | one x =>
     rw [hv] at hc qL; simp only at hc
     cases Il : r.agg with
     | true => rw [Il] at hc; cases hc
     | false =>
       rw [Il] at hc
       cases hc
       refine ⟨[a.eval (.tmp t)], a.eval (.tmp t), ⟨rfl, fun i y z hy hz => ?_⟩, rfl, .inl ⟨fun t' e' => (by rw [hs] at e'; cases e'), .inr ⟨rfl, rfl⟩⟩⟩
       cases i with
       | zero => simp at hy hz; subst hy hz; exact qL
       | succ i => simp at hy
 | cell t ty =>
   obtain ⟨hs, h1, h2⟩ := hr; rw [hs] at hc; have qL := h.eO t; simp only at hc
   cases hv : bI st t with
   | kV _ => rw [hv] at hc; cases hc
   | agg l => rw [hv] at hc; cases hc
   | one x =>
     cases x with
     | ptr b g off =>
       rw [hv] at hc qL; obtain ⟨ho, hb⟩ := aD hc; have ho := Nat.eq_of_beq_eq_true ho; subst ho; obtain ⟨sl, k1, k2, k3⟩ := fM hb; obtain ⟨q1, vs, ty', q2, q3⟩ := h.boxes b sl cs k1 k3; have e : a.tmps.getD t undef = .pointer (some ⟨c.bx b, 0, none⟩) := qL.2.2 cs hb; have QI : w.rangeAt (c.bx b) 0 vs.toList := by
         have := yC (off := 0) q2 vs.toList.length
         rwa [List.drop_zero, List.take_length] at this
       have hlen : vs.toList.length = r.ps.length := by rw [← q3.1, hn]
       have mz := p5 (P := P) hT h1 w (c.bx b) 0 vs.toList QI hlen; refine ⟨vs.toList, valOf (T.agg ty) vs.toList, q3, ?_, .inl ⟨fun t' e' => (by rw [hs] at e'; cases e'), ?_⟩⟩
       · simp [AF, e, asAddr, Sem.run_bind, mz]
       · rw [h2]
         cases Il : r.agg with
         | true => exact .inl ⟨rfl, by simp [valOf]⟩
         | false =>
           obtain ⟨_, _, _, BM⟩ := hT.agg ty _ h1; have h3 := BM (by rw [h2, Il]); refine .inr ⟨rfl, ?_⟩; have : vs.toList.length = 1 := by rw [hlen, h3]
           cases wZ : vs.toList with
           | nil => rw [wZ] at this; cases this
           | cons x l => cases l with
             | nil => rfl
             | cons _ _ => rw [wZ] at this; simp at this
     | _ => rw [hv] at hc; cases hc
end Go.TM
namespace Go.TM
open Go Go.RowKit
def vK (T : jb) (tm : Array Value) : List ResultVar → List RP → Prop
 | [], [] => True
 | v :: vs, r :: rs => Le T tm v r ∧ vK T tm vs rs
 | _, _ => False
theorem CD {P : Program} {T : jb} (hT : fh P T) {w0 : World} {mu : Mu} {c : Cz} {st : St} {a : Act} {w : World} (h : Rel w0 mu c st a w) : (Uk : List ResultVar) → (rs : List RP) → vK T a.tmps Uk rs → (t : RT) → (y : ak t) → {x : ak (bQ rs t)} → {u : List (Option Lb)} → {r : List (Nat × Nat)} → AE st rs t y = some (x, u, r) →
   (eV rs t x).2 = y ∧ (eV rs t x).1.length = rs.length ∧ (∀ l ∈ bt u, l.real = true) ∧ ∃ vals : List Value, (Uk.mapM (AF a.tmps)).run P w = .ok vals w ∧ vals.length = Uk.length ∧
     ∀ (ρ : Lb → Option Lb) (j : Nat), (∀ k l, nth u k = some (some l) → ρ l = some (.gn (j + k))) → (∀ p ∈ r, ρ (.sp p.1 p.2) = none) → jH (c.map ρ) w j (eV rs t x).1 vals
 | [], [], _, t, y, x, u, r, he => by
   injection he with he; injection he with e1 e2; injection e2 with e2 e3; subst e1 e2 e3; exact ⟨rfl, rfl, by simp [bt], [], rfl, rfl, fun _ _ _ _ => rfl⟩
 | [], _ :: _, hf, _, _, _, _, _, _ => hf.elim
 | _ :: _, [], hf, _, _, _, _, _, _ => hf.elim
 | rv :: Uk, rr :: rs, hf, t, y, x, u, r, he => by
   unfold AE at he; obtain ⟨cs, hc, he⟩ := Option.bind_eq_some_iff.1 he; obtain ⟨q, hq, he⟩ := Option.bind_eq_some_iff.1 he; obtain ⟨p, hp, he⟩ := Option.map_eq_some_iff.1 he; obtain ⟨x2, u2, r2⟩ := q; obtain ⟨x1, u1, r1⟩ := p; injection he with e1 e2; injection e2 with e2 e3; subst e1 e2 e3; obtain ⟨l1, l2, l3⟩ := CC rr.ps _ cs _ hp; obtain ⟨vs, v, g1, g2, g3⟩ := RP.Lf hT h hf.1 hc l2; obtain ⟨k1, k2, k3, vals, k4, k5, k6⟩ := CD hT h Uk rs hf.2 t y hq; have h0 := fun (ρ : Lb → Option Lb) (j : Nat) => tN h (ρ := ρ) (f := .gn) rr.ps (bQ rs t) cs x2 vs j g1 hp
   have e0 := (h0 (fun _ => none) 0).1; refine ⟨?_, ?_, fun l hl => ?_, v :: vals, ?_, by simp [k5], fun ρ j hu hr => ?_⟩
   · show (eV rs t (cM rr.ps (bQ rs t) x1).2).2 = y; rw [e0]; exact k1
   · show (eV rs t (cM rr.ps (bQ rs t) x1).2).1.length + 1 = _; rw [e0, k2]; rfl
   · rw [fC] at hl; rcases List.mem_append.1 hl with hl | hl
     · unfold RP.SQ at hl
       split at hl
       · split at hl
         · simp only [List.mem_singleton, Option.some.injEq] at hl; subst hl; rfl
         · cases hl
       · cases hl
     · rcases List.mem_append.1 hl with hl | hl
       · exact (h0 (fun _ => none) 0).2.1 l (fC.2 hl)
       · exact k3 l (fC.2 hl)
   · rw [List.mapM_cons]; simp [Sem.run_bind, g2, k4]
   · have e : (eV (rr :: rs) t x1).1 = rr.rv (cM rr.ps (bQ rs t) x1).1 :: (eV rs t x2).1 := by
       show rr.rv (cM rr.ps (bQ rs t) x1).1 :: (eV rs t (cM rr.ps (bQ rs t) x1).2).1 = _; rw [e0]
     show jH (c.map ρ) w j (eV (rr :: rs) t x1).1 (v :: vals); rw [e]; rcases g3 with ⟨hnp, g3⟩ | ⟨tt, b, ty, us, QJ, QK, hv, eH, KS, wZ⟩
     · have QK : rr.SQ st = [] := by
         unfold RP.SQ
         split
         · rename_i t' e'; exact absurd e' (hnp t')
         · rfl
       rw [QK, List.nil_append] at hu; have hL := (h0 ρ j).2.2 (fun k l hk => hu k l (by
         rw [kn, if_pos (C9 hk)]; exact hk)) (fun p hp => hr p (List.mem_append_left _ hp))
       have ez := k6 ρ (j + rr.ps.length) (fun k l hk => by
         have := hu (rr.ps.length + k) l (by rw [kn, l1, if_neg (by omega), Nat.add_sub_cancel_left]; exact hk); rw [Nat.add_assoc]; exact this) (fun p hp => hr p (List.mem_append_right _ hp))
       have hrv : ∀ os, rr.rv os = (match rr.agg, os with | false, [o] => RV.one o | _, os => RV.agg os) := by
         intro os; unfold RP.rv
         split
         · rename_i t' e'; exact absurd e' (hnp t')
         · rfl
       rcases g3 with ⟨ha, rfl⟩ | ⟨ha, rfl⟩
       · have er : rr.rv (cM rr.ps (bQ rs t) x1).1 = .agg (cM rr.ps (bQ rs t) x1).1 := by rw [hrv, ha]
         rw [er]; exact ⟨vs.toArray, vals, rfl, by simpa using hL, by rw [l3]; exact ez⟩
       · have hlen : cs.length = 1 := g1.1; have : (cM rr.ps (bQ rs t) x1).1.length = 1 := by rw [l3, ← l2, hlen]
         cases ho : (cM rr.ps (bQ rs t) x1).1 with
         | nil => rw [ho] at this; cases this
         | cons o l => cases l with
           | cons _ _ => rw [ho] at this; simp at this
           | nil =>
             have er : rr.rv [o] = .one o := by rw [hrv, ha]
             rw [er]; rw [ho] at hL; refine ⟨v, vals, rfl, hL, ?_⟩; rw [← l2, hlen] at ez; exact ez
     · rw [QK] at hu; have hb := hu 0 (.box b) rfl; have hL := (h0 ρ (j + 1)).2.2 (fun k l hk => by
         have := hu (k + 1) l (by
           show nth (u1 ++ u2) k = _; rw [kn, if_pos (C9 hk)]; exact hk)
         rwa [show j + (k + 1) = j + 1 + k by omega] at this) (fun p hp => hr p (List.mem_append_left _ hp))
       have ez := k6 ρ (j + (rr.ps.length + 1)) (fun k l hk => by
         have := hu (rr.ps.length + k + 1) l (by
           show nth (u1 ++ u2) (rr.ps.length + k) = _; rw [kn, l1, if_neg (by omega), Nat.add_sub_cancel_left]; exact hk)
         rwa [show j + (rr.ps.length + k + 1) = j + (rr.ps.length + 1) + k by omega] at this) (fun p hp => hr p (List.mem_append_right _ hp))
       have er : rr.rv (cM rr.ps (bQ rs t) x1).1 = .ptr (cM rr.ps (bQ rs t) x1).1 := by unfold RP.rv; rw [QJ]
       rw [er]; subst wZ; refine ⟨v, vals, rfl, ⟨c.bx b, us, ty, hv, ?_, KS, hL⟩, by rw [l3]; exact ez⟩; rw [Nat.add_zero] at hb; exact (Cz.iT eH).trans hb
def Dn (mu : Mu) (lc : Nat → Nat → Loc) (i : Nat) (ps : List AP) (cN : List AV) (vs : List Value) : Prop :=
 ∀ (k : Nat) (p : AP) (av : AV) (v : Value), ps[k]? = some p → cN[k]? = some av → vs[k]? = some v → match p, av with
   | .io _ _, .io A => v.oneCell' = true ∧ gP (lc (i + k) 0) A.r.width 0 A.xs.length v ∧ IM.arr (i + k) 0 1 A.r.width A.xs.length (lc (i + k) 0) ∈ mu.an
   | .box _ _, .box _ => ∃ lN, v = .pointer (some ⟨lN, 0, none⟩) ∧ IM.box (i + k) 1 lN ∈ mu.an
   | .val _ _, .val _ _ => True
   | .bo qs, .bo os => ∃ us, v = .agg us ∧ ∀ j A, os[j]? = some (.own A) → (∃ r d, qs[j]? = some (.own r d)) ∧ ∃ u, us.toList[j]? = some u ∧ u.oneCell' = true ∧ gP (lc (i + k) j) A.r.width 0 A.xs.length u ∧ IM.arr (i + k) j 1 A.r.width A.xs.length (lc (i + k) j) ∈ mu.an
   | _, _ => False
theorem qO {w0 : World} {mu : Mu} {c : Cz} {st : St} {a : Act} {w : World} (h : Rel w0 mu c st a w) {lc : Nat → Nat → Loc} : (ps : List AP) → (i : Nat) → (cN : List AV) → (vs : List Value) → ps.length = cN.length → ps.length = vs.length → Dn mu lc i ps cN vs → {x : ak (bc ps)} → {u : List Lb} → {r : List (Nat × Nat)} → qu st i ps = some (x, u, r) →
   (∀ l ∈ u, l.real = true) ∧ ∃ tb : List (Lb × Lb), tb.map (·.1) = u ∧ (∀ p ∈ tb, p.2.iO = true) ∧ ∀ ρ : Lb → Option Lb, (∀ p ∈ tb, ρ p.1 = some p.2) → (∀ p ∈ r, ρ (.sp p.1 p.2) = none) → gd (c.map ρ) w lc i cN vs (kt ps x)
 | [], i, cN, vs, h1, h2, _, x, u, r, he => by
   injection he with he; injection he with e1 e2; injection e2 with e2 e3; subst e2 e3; have : cN = [] := by simpa using h1.symm
   subst this; exact ⟨by simp, [], rfl, by simp, fun _ _ _ => rfl⟩
 | p :: ps, i, [], vs, h1, _, _, _, _, _, _ => by simp at h1
 | p :: ps, i, _ :: _, [], _, h2, _, _, _, _, _ => by simp at h2
 | p :: ps, i, av :: cN, v :: vs, h1, h2, hl, x, u, r, he => by
   have vi : Dn mu lc (i + 1) ps cN vs := fun k p' Ii v' e1 e2 e3 => by
     have := hl (k + 1) p' Ii v' (by simpa using e1) (by simpa using e2) (by simpa using e3)
     rwa [show i + (k + 1) = i + 1 + k by omega] at this
   have Qj : ps.length = cN.length := by simpa using h1
   have XC : ps.length = vs.length := by simpa using h2
   have h0 := hl 0 p av v rfl rfl rfl
   cases p with
   | val agg qs =>
     cases av with
     | val NT os =>
       obtain ⟨g1, tb, g2, g3, g4⟩ := qO h ps (i + 1) cN vs Qj XC vi he; exact ⟨g1, tb, g2, g3, fun ρ hp hr => g4 ρ hp hr⟩
     | io _ => exact h0.elim
     | box _ => exact h0.elim
     | bo _ => exact h0.elim
   | io rr dd =>
     cases av with
     | val _ _ => exact h0.elim
     | box _ => exact h0.elim
     | bo _ => exact h0.elim
     | io A =>
       obtain ⟨q1, q2, q3⟩ := h0; simp only [Nat.add_zero] at q2 q3; unfold qu at he; obtain ⟨q, hq, he⟩ := Option.bind_eq_some_iff.1 he; obtain ⟨p, hp, he⟩ := Option.map_eq_some_iff.1 he; obtain ⟨x2, u2, r2⟩ := q; obtain ⟨x1, u1, r1⟩ := p; injection he with e1 e2; injection e2 with e2 e3; subst e1 e2 e3; obtain ⟨g1, tb, g2, g3, g4⟩ := qO h ps (i + 1) cN vs Qj XC vi hq; have NV := h.dK _ q3; have hV : dV c st w (.one (.ref i 0 1 .full)) v := ⟨q1, NV.1, fun A' dL => by
         obtain ⟨e1, e2, e3⟩ := NV.2 A' dL; rw [e1, e3]; show gP (lc i 0) A.r.width 0 A'.xs.length v; rw [e2]; exact q2⟩
       obtain ⟨a1, a2, ta, a3, a4, a5⟩ := xm h i hV hp; obtain ⟨A', dL, Ul⟩ : ∃ A', aQ st i 0 1 = some A' ∧ ∃ xs, bn rr A'.xs = some xs ∧ x1.1 = xs := by
         have hp : (bif Nat.beq i i && (Nat.beq 0 0 && Nat.beq 1 1) then ((aQ st i 0 1).bind fun A => bif A.own && A.md.is dd then (bn rr A.xs).map fun xs => ((xs, x2), [Lb.sp i 0], ([] : List (Nat × Nat))) else none) else none) = some (x1, u1, r1) := hp; obtain ⟨_, hp1⟩ := aD hp; obtain ⟨A', dL, Ys⟩ := Option.bind_eq_some_iff.1 hp1; obtain ⟨_, hp3⟩ := aD Ys; obtain ⟨xs, O4, e⟩ := Option.map_eq_some_iff.1 hp3; injection e with e _; exact ⟨A', dL, xs, O4, by rw [← e]⟩
       obtain ⟨xs, O4, ex⟩ := Ul; obtain ⟨e1, e2, e3⟩ := NV.2 A' dL; refine ⟨fun l hl => ?_, ta ++ tb, by simp [a3, g2], fun p hp => ?_, fun ρ hp hr => ?_⟩
       · rcases List.mem_append.1 hl with hl | hl
         · exact a2 l hl
         · exact g1 l hl
       · rcases List.mem_append.1 hp with hp | hp
         · exact a4 p hp
         · exact g3 p hp
       · have SR := a5 ρ (fun p jh => hp p (List.mem_append_left _ jh)) (fun p jh => hr p (List.mem_append_left _ jh)); have ez := g4 ρ (fun p jh => hp p (List.mem_append_right _ jh)) (fun p jh => hr p (List.mem_append_right _ jh)); have SR : OwnAt (c.map ρ) w (.bB i 0) (c.lc i 0) { r := rr, own := true, xs := x1.1, md := dd } v := SR; rw [e3] at SR; obtain ⟨er, J8⟩ := aX O4; refine ⟨{ r := rr, own := true, xs := x1.1, md := dd }, kt ps x1.2, rfl, ?_, ?_, SR, ?_⟩
         · show rr.width = A.r.width; rw [← er]; exact e1
         · show List.length (x1.1 : List (ak rr)) = A.xs.length; rw [ex, J8, ← e2]
           cases er
           rfl
         · have : x1.2 = x2 := a1; rw [this]; exact ez
   | bo qs =>
     cases av with
     | val _ _ => exact h0.elim
     | io _ => exact h0.elim
     | box _ => exact h0.elim
     | bo os =>
       obtain ⟨us, rfl, q1⟩ := h0; simp only [Nat.add_zero] at q1; unfold qu at he; obtain ⟨q, hq, he⟩ := Option.bind_eq_some_iff.1 he; obtain ⟨p, hp, he⟩ := Option.map_eq_some_iff.1 he; obtain ⟨x2, u2, r2⟩ := q; obtain ⟨x1, u1⟩ := p; injection he with e1 e2; injection e2 with e2 e3; subst e1 e2 e3; obtain ⟨g1, tb, g2, g3, g4⟩ := qO h ps (i + 1) cN vs Qj XC vi hq; obtain ⟨a1, a2, a3⟩ := gZ qs 0 (bc ps) x2 hp
       let f : Lb → Lb × Lb := fun l => (l, match l with | .sp x y => .bB x y | l => l)
       refine ⟨fun l hl => ?_, u1.map f ++ tb, ?_, fun p hp => ?_, fun ρ hp hr => ?_⟩
       · rcases List.mem_append.1 hl with hl | hl
         · obtain ⟨k, rfl⟩ := a2 l hl; rfl
         · exact g1 l hl
       · rw [List.map_append, List.map_map, g2]
         congr 1
         exact List.map_id u1
       · rcases List.mem_append.1 hp with hp | hp
         · obtain ⟨l, hl, rfl⟩ := List.mem_map.1 hp; obtain ⟨k, rfl⟩ := a2 l hl; rfl
         · exact g3 p hp
       · have ez := g4 ρ (fun p jh => hp p (List.mem_append_right _ jh)) hr; refine ⟨(kH qs (bc ps) x1).1, kt ps (kH qs (bc ps) x1).2, rfl, ⟨us, rfl, fun j A hj => ?_⟩, by rw [a1]; exact ez⟩; obtain ⟨⟨r, dd, YU⟩, u, b1, b2, b3, b4⟩ := q1 j A hj; obtain ⟨A', xs, c1, c2, cd, c3, c4, c5⟩ := a3 j r dd YU; rw [Nat.zero_add] at c1 c5; obtain ⟨e1, e2, e3⟩ := (h.dK _ b4).2 A' c1; obtain ⟨er, J8⟩ := aX c3; have ha := uH h c1; have hρ : ρ (.sp i j) = some (.bB i j) := hp (.sp i j, .bB i j) (List.mem_append_left _ (List.mem_map.2 ⟨_, c5, rfl⟩)); have hw : r.width = A.r.width := by rw [← er]; exact e1
         have hn : xs.length = A.xs.length := by
           rw [← e2, J8]
           cases er
           rfl
         refine ⟨_, u, c4, b1, hw, hn, b2, ?_, rfl, ?_⟩
         · show gP (lc i j) r.width 0 xs.length u; rw [hw, hn]; exact b3
         · show match lc i j with
             | .nil => xs = []
             | .at b off cap => _
           obtain ⟨rA, aef, xsA, mdA⟩ := A'; simp only at er c2 cd; subst er c2 cd; have J8 : xs = xsA := J8; subst J8; unfold bA at ha; have e3 : c.lc i j = lc i j := e3; rw [e3] at ha
           cases fN : lc i j with
           | nil => rw [fN] at ha; exact ha
           | «at» b off cap =>
             rw [fN] at ha; obtain ⟨k0, k2, k3, k4⟩ := ha; exact ⟨(Cz.iT k0).trans hρ, k2, k3, k4.map hρ⟩
   | box C4 qs =>
     cases av with
     | val _ _ => exact h0.elim
     | io _ => exact h0.elim
     | bo _ => exact h0.elim
     | box os =>
       obtain ⟨lN, q1, q2⟩ := h0; simp only [Nat.add_zero] at q2; unfold qu at he; obtain ⟨q, hq, he⟩ := Option.bind_eq_some_iff.1 he; obtain ⟨p, hp, he⟩ := Option.map_eq_some_iff.1 he; obtain ⟨x2, u2, r2⟩ := q; obtain ⟨x1, u1, r1⟩ := p; injection he with e1 e2; injection e2 with e2 e3; subst e1 e2 e3; obtain ⟨g1, tb, g2, g3, g4⟩ := qO h ps (i + 1) cN vs Qj XC vi hq; have NV := h.dK _ q2; have hV : dV c st w (.one (.ptr i 1 0)) v := ⟨by rw [q1]; rfl, NV.1, fun cs tl => by rw [NV.2 cs tl, q1]⟩; obtain ⟨a1, a2, ta, a3, a4, a5⟩ := xm h i hV hp; refine ⟨fun l hl => ?_, ta ++ tb, by simp [a3, g2], fun p hp => ?_, fun ρ hp hr => ?_⟩
       · rcases List.mem_append.1 hl with hl | hl
         · exact a2 l hl
         · exact g1 l hl
       · rcases List.mem_append.1 hp with hp | hp
         · exact a4 p hp
         · exact g3 p hp
       · have SR := a5 ρ (fun p jh => hp p (List.mem_append_left _ jh)) (fun p jh => hr p (List.mem_append_left _ jh)); have ez := g4 ρ (fun p jh => hp p (List.mem_append_right _ jh)) (fun p jh => hr p (List.mem_append_right _ jh)); refine ⟨(cM qs (bc ps) x1).1, kt ps (cM qs (bc ps) x1).2, rfl, SR, ?_⟩; have : (cM qs (bc ps) x1).2 = x2 := a1; rw [this]; exact ez
end Go.TM
namespace Go.TM
open Go Go.RowKit
def start (n : Nat) (ps : List AP) (x : ak (ar (ps.map some))) : St := lO 0 (bM (ps.map some) x ++ List.replicate (n + 1 - ps.length) none)
theorem nZ : (l : List (Option AP)) → (x : ak (ar l)) → (bM l x).length = l.length
 | [], _ => rfl
 | none :: l, x => by
   show (bM l x).length + 1 = l.length + 1; rw [nZ l x]
 | some p :: l, x => by
   show (bM l (p.av (ar l) x).2).length + 1 = l.length + 1; rw [nZ l _]
theorem uK {c : Cz} {w : World} {lc : Nat → Nat → Loc} : (ps : List AP) → (i : Nat) → (cN : List AV) → (vs : List Value) → {x : ak (ar (ps.map some))} → eo ps cN = some x → vH c w lc i cN vs →
   ps.length = cN.length ∧ ps.length = vs.length ∧ ∀ k av, (bM (ps.map some) x)[k]? = some (some av) → ∃ v, vs[k]? = some v ∧ qa c w (i + k) (lc (i + k)) av v
 | [], i, [], vs, x, hx, h => by
   have : vs = [] := h; subst this; exact ⟨rfl, rfl, fun k av hk => by
     have hk : ([] : List (Option AV))[k]? = some (some av) := hk; simp at hk⟩
 | [], _, _ :: _, _, _, hx, _ => by simp [eo] at hx
 | _ :: _, _, [], _, _, hx, _ => by simp [eo] at hx
 | p :: ps, i, av :: cN, vs, x, hx, h => by
   obtain ⟨v, l, rfl, h1, h2⟩ := h; unfold eo at hx
   cases hy : eo ps cN with
   | none => simp [hy] at hx
   | some y =>
     simp only [hy] at hx; obtain ⟨g1, g2, g3⟩ := uK ps (i + 1) cN l hy h2; obtain ⟨q1, q2⟩ := ET (c := c) (w := w) (i := i) (lc := lc i) hx; refine ⟨by simp [g1], by simp [g2], fun k Ii hk => ?_⟩
     cases k with
     | zero =>
       have hk : some (some (p.av (ar (ps.map some)) x).1) = some (some Ii) := hk; simp only [Option.some.injEq] at hk; subst hk; exact ⟨v, rfl, q2 v h1⟩
     | succ k =>
       have hk : (bM (ps.map some) (p.av (ar (ps.map some)) x).2)[k]? = some (some Ii) := hk; rw [q1] at hk; obtain ⟨v', h3, h4⟩ := g3 k Ii hk; exact ⟨v', by simpa using h3, by rw [show i + (k + 1) = i + 1 + k by omega]; exact h4⟩
def gQ (lc : Nat → Loc) (i : Nat) : (j : Nat) → List OV → List IM
 | _, [] => []
 | j, .own A :: os => .arr i j 1 A.r.width A.xs.length (lc j) :: gQ lc i (j + 1) os
 | j, .int _ _ :: os => gQ lc i (j + 1) os
 | j, .bool _ :: os => gQ lc i (j + 1) os
 | j, .str _ :: os => gQ lc i (j + 1) os
 | j, .shr _ _ :: os => gQ lc i (j + 1) os
 | j, .j6 _ _ :: os => gQ lc i (j + 1) os
 | j, .fn _ _ _ :: os => gQ lc i (j + 1) os
 | j, .di :: os => gQ lc i (j + 1) os
theorem xp {lc : Nat → Loc} {i : Nat} : (os : List OV) → (j : Nat) → ∀ p ∈ gQ lc i j os, ∃ k A, os[k]? = some (.own A) ∧ p = .arr i (j + k) 1 A.r.width A.xs.length (lc (j + k))
 | [], j, p, h => by simp [gQ] at h
 | o :: os, j, p, h => by
   have rest : p ∈ gQ lc i (j + 1) os → ∃ k A, (o :: os)[k]? = some (.own A) ∧ p = .arr i (j + k) 1 A.r.width A.xs.length (lc (j + k)) := by
     intro h; obtain ⟨k, A, h1, h2⟩ := xp os (j + 1) p h; refine ⟨k + 1, A, by simpa using h1, ?_⟩; rw [h2, show j + 1 + k = j + (k + 1) by omega]
   cases o with
   | own A =>
     rcases List.mem_cons.1 h with h | h
     · exact ⟨0, A, rfl, h⟩
     · exact rest h
   | _ => exact rest h
theorem yU {lc : Nat → Loc} {i : Nat} : (os : List OV) → (j : Nat) → ∀ (k : Nat) (A : fK), os[k]? = some (.own A) → IM.arr i (j + k) 1 A.r.width A.xs.length (lc (j + k)) ∈ gQ lc i j os
 | [], j, k, A, h => by simp at h
 | o :: os, j, 0, A, h => by
   simp only [List.getElem?_cons_zero, Option.some.injEq] at h; subst h; exact List.mem_cons_self
 | o :: os, j, k + 1, A, h => by
   have := yU (lc := lc) (i := i) os (j + 1) k A (by simpa using h); rw [show j + 1 + k = j + (k + 1) by omega] at this
   cases o with
   | own A => exact List.mem_cons_of_mem _ this
   | _ => exact this
def AG (lc : Nat → Nat → Loc) : (i : Nat) → List AV → List Value → List IM
 | _, [], _ => []
 | _, _ :: _, [] => []
 | i, .val _ _ :: as, _ :: vs => AG lc (i + 1) as vs
 | i, .io A :: as, _ :: vs => .arr i 0 1 A.r.width A.xs.length (lc i 0) :: AG lc (i + 1) as vs
 | i, .bo os :: as, _ :: vs => gQ (lc i) i 0 os ++ AG lc (i + 1) as vs
 | i, .box _ :: as, v :: vs => .box i 1 (match v with | .pointer (some ad) => ad.block | _ => 0) :: AG lc (i + 1) as vs
theorem qP {lc : Nat → Nat → Loc} : (i : Nat) → (as : List AV) → (vs : List Value) → ∀ p ∈ AG lc i as vs, ∃ k av v, as[k]? = some av ∧ vs[k]? = some v ∧ ((∃ A, av = .io A ∧ p = .arr (i + k) 0 1 A.r.width A.xs.length (lc (i + k) 0)) ∨ (∃ os, av = .box os ∧ p = .box (i + k) 1 (match v with | .pointer (some ad) => ad.block | _ => 0)) ∨ ∃ os j A, av = .bo os ∧ os[j]? = some (.own A) ∧ p = .arr (i + k) j 1 A.r.width A.xs.length (lc (i + k) j))
 | _, [], _, p, h => by simp [AG] at h
 | _, _ :: _, [], p, h => by simp [AG] at h
 | i, .val _ _ :: as, _ :: vs, p, h => by
   obtain ⟨k, av, v, h1, h2, h3⟩ := qP (i + 1) as vs p h; exact ⟨k + 1, av, v, by simpa using h1, by simpa using h2, by rw [show i + (k + 1) = i + 1 + k by omega]; exact h3⟩
 | i, .io A :: as, v0 :: vs, p, h => by
   rcases List.mem_cons.1 h with h | h
   · exact ⟨0, .io A, v0, rfl, rfl, .inl ⟨A, rfl, h⟩⟩
   · obtain ⟨k, av, v, h1, h2, h3⟩ := qP (i + 1) as vs p h; exact ⟨k + 1, av, v, by simpa using h1, by simpa using h2, by rw [show i + (k + 1) = i + 1 + k by omega]; exact h3⟩
 | i, .box os :: as, v0 :: vs, p, h => by
   rcases List.mem_cons.1 h with h | h
   · exact ⟨0, .box os, v0, rfl, rfl, .inr (.inl ⟨os, rfl, h⟩)⟩
   · obtain ⟨k, av, v, h1, h2, h3⟩ := qP (i + 1) as vs p h; exact ⟨k + 1, av, v, by simpa using h1, by simpa using h2, by rw [show i + (k + 1) = i + 1 + k by omega]; exact h3⟩
 | i, .bo os :: as, v0 :: vs, p, h => by
   rcases List.mem_append.1 h with h | h
   · obtain ⟨j, A, h1, h2⟩ := xp os 0 p h; rw [Nat.zero_add] at h2; exact ⟨0, .bo os, v0, rfl, rfl, .inr (.inr ⟨os, j, A, rfl, h1, h2⟩)⟩
   · obtain ⟨k, av, v, h1, h2, h3⟩ := qP (i + 1) as vs p h; exact ⟨k + 1, av, v, by simpa using h1, by simpa using h2, by rw [show i + (k + 1) = i + 1 + k by omega]; exact h3⟩
theorem Im {lc : Nat → Nat → Loc} : (i : Nat) → (as : List AV) → (vs : List Value) → as.length = vs.length → ∀ k av v, as[k]? = some av → vs[k]? = some v → (∀ A, av = .io A → IM.arr (i + k) 0 1 A.r.width A.xs.length (lc (i + k) 0) ∈ AG lc i as vs) ∧ (∀ os, av = .box os → IM.box (i + k) 1 (match v with | .pointer (some ad) => ad.block | _ => 0) ∈ AG lc i as vs) ∧ (∀ os, av = .bo os → ∀ j A, os[j]? = some (.own A) → IM.arr (i + k) j 1 A.r.width A.xs.length (lc (i + k) j) ∈ AG lc i as vs)
 | _, [], _, _, k, av, v, h, _ => by simp at h
 | _, _ :: _, [], hn, _, _, _, _, _ => by simp at hn
 | i, a0 :: as, v0 :: vs, hn, 0, av, v, h1, h2 => by
   simp only [List.getElem?_cons_zero, Option.some.injEq] at h1 h2; subst h1 h2; refine ⟨fun A e => ?_, fun os e => ?_, fun os e j A hj => ?_⟩
   · subst e; exact List.mem_cons_self
   · subst e; exact List.mem_cons_self
   · subst e; have := yU (lc := lc i) (i := i) os 0 j A hj; rw [Nat.zero_add] at this; exact List.mem_append_left _ this
 | i, a0 :: as, v0 :: vs, hn, k + 1, av, v, h1, h2 => by
   obtain ⟨g1, g2, g3⟩ := Im (i + 1) as vs (by simpa using hn) k av v (by simpa using h1) (by simpa using h2); have e : i + (k + 1) = i + 1 + k := by omega
   rw [e]
   cases a0 with
   | val _ _ => exact ⟨g1, g2, g3⟩
   | io _ => exact ⟨fun A h => List.mem_cons_of_mem _ (g1 A h), fun os h => List.mem_cons_of_mem _ (g2 os h), fun os h j A hj => List.mem_cons_of_mem _ (g3 os h j A hj)⟩
   | box _ => exact ⟨fun A h => List.mem_cons_of_mem _ (g1 A h), fun os h => List.mem_cons_of_mem _ (g2 os h), fun os h j A hj => List.mem_cons_of_mem _ (g3 os h j A hj)⟩
   | bo _ => exact ⟨fun A h => List.mem_append_right _ (g1 A h), fun os h => List.mem_append_right _ (g2 os h), fun os h j A hj => List.mem_append_right _ (g3 os h j A hj)⟩
def ka (ps : List AP) (mu : Mu) : Prop :=
 ∀ p ∈ mu.an, (∃ i r W n l, p = .arr i 0 1 W n l ∧ ∃ d, ps[i]? = some (.io r d)) ∨ (∃ i lN b qs, p = .box i 1 lN ∧ ps[i]? = some (.box b qs)) ∨ ∃ i j W n l qs, p = .arr i j 1 W n l ∧ ps[i]? = some (.bo qs)
theorem AH : (ps : List OP) → (t : RT) → (os : List OV) → (y : ak t) → {x : ak (jT ps t)} → cB ps t os y = some x → ∀ (j : Nat) (A : fK), os[j]? = some (.own A) → (∃ r d, ps[j]? = some (.own r d)) ∧ ∃ B : fK, (cM ps t x).1[j]? = some (.own B) ∧ B.r.width = A.r.width ∧ B.xs.length = A.xs.length
 | [], t, [], y, x, h => by intro k A hk; simp at hk
 | [], _, _ :: _, _, _, h => by simp [cB] at h
 | _ :: _, _, [], _, _, h => by simp [cB] at h
 | p :: ps, t, o :: os, y, x, h => by
   unfold cB at h
   cases h1 : oY p o with
   | none => simp [h1] at h
   | some a =>
     cases h2 : cB ps t os y with
     | none => simp [h1, h2] at h
     | some z =>
       simp only [h1, h2] at h; have h : (a, z) = x := Option.some.inj h; subst h; intro j A hj
       cases j with
       | succ j =>
         obtain ⟨⟨r, d, q1⟩, B, q2, q3⟩ := AH ps t os y h2 j A (by simpa using hj); exact ⟨⟨r, d, by simpa using q1⟩, B, (by show (cM ps t z).1[j]? = _; exact q2), q3⟩
       | zero =>
         simp only [List.getElem?_cons_zero, Option.some.injEq] at hj; subst hj
         cases p with
         | own r d =>
           have h1 : (bif A.md.is d then bn r A.xs else none) = some a := h1; obtain ⟨_, h1⟩ := aD h1; obtain ⟨er, J8⟩ := aX h1; refine ⟨⟨r, d, rfl⟩, { r := r, own := true, xs := a, md := d }, rfl, by show r.width = _; rw [← er], ?_⟩; show List.length (a : List (ak r)) = _; rw [J8]
           cases er
           rfl
         | _ => cases h1
theorem yV : (ps : List AP) → (cN : List AV) → {x : ak (ar (ps.map some))} → eo ps cN = some x → ∀ (k : Nat) (av : AV), cN[k]? = some av → ∃ p : AP, ps[k]? = some p ∧ match p, av with
   | .io _ _, .io A => ∃ B : fK, (bM (ps.map some) x)[k]? = some (some (.io B)) ∧ B.r.width = A.r.width ∧ B.xs.length = A.xs.length
   | .box _ _, .box _ => True
   | .val _ _, .val _ _ => True
   | .bo qs, .bo os => ∃ xd : List OV, (bM (ps.map some) x)[k]? = some (some (AV.bo xd)) ∧ ∀ (j : Nat) (A : fK), os[j]? = some (OV.own A) → (∃ r d, qs[j]? = some (OP.own r d)) ∧ ∃ B : fK, xd[j]? = some (OV.own B) ∧ B.r.width = A.r.width ∧ B.xs.length = A.xs.length
   | _, _ => False
 | [], [], _, _ => by intro k av h; simp at h
 | [], _ :: _, _, hx => by simp [eo] at hx
 | _ :: _, [], _, hx => by simp [eo] at hx
 | p :: ps, av :: cN, x, hx => by
   unfold eo at hx
   cases hy : eo ps cN with
   | none => simp [hy] at hx
   | some y =>
     simp only [hy] at hx; have e2 : (p.av (ar (ps.map some)) x).2 = y := (ET (c := ⟨fun _ => 0, fun _ _ => .nil, fun _ => none⟩) (w := default) (i := 0) (lc := fun _ => .nil) hx).1; intro k Ii hk
     cases k with
     | zero =>
       simp only [List.getElem?_cons_zero, Option.some.injEq] at hk; subst hk; refine ⟨p, rfl, ?_⟩
       cases p with
       | val agg qs => cases av with
         | val _ _ => trivial
         | io _ => cases agg <;> cases hx
         | box _ => cases agg <;> cases hx
         | bo _ => cases agg <;> cases hx
       | io r d => cases av with
         | val _ _ => cases hx
         | box _ => cases hx
         | bo _ => cases hx
         | io A =>
           have hx : (bif A.md.is d then (match bn r A.xs with | some xs => some ((xs, y) : ak (.cons (.sl r) (ar (ps.map some)))) | none => none) else none) = some x := hx; obtain ⟨_, hx⟩ := aD hx
           cases hc : bn r A.xs with
           | none => rw [hc] at hx; cases hx
           | some xs =>
             rw [hc] at hx; injection hx with hx; obtain ⟨er, J8⟩ := aX hc; refine ⟨{ r := r, own := true, xs := x.1, md := d }, rfl, by show r.width = _; rw [← er], ?_⟩; show List.length (x.1 : List (ak r)) = _; rw [← hx]; show xs.length = _; rw [J8]
             cases er
             rfl
       | box b qs => cases av with
         | val _ _ => cases hx
         | io _ => cases hx
         | bo _ => cases hx
         | box _ => trivial
       | bo qs => cases av with
         | val _ _ => cases hx
         | io _ => cases hx
         | box _ => cases hx
         | bo os =>
           have hx : cB qs (ar (ps.map some)) os y = some x := hx; exact ⟨_, rfl, AH qs _ os y hx⟩
     | succ k =>
       obtain ⟨p', h1, h2⟩ := yV ps cN hy k Ii (by simpa using hk); refine ⟨p', by simpa using h1, ?_⟩; have eh : (bM ((p :: ps).map some) x)[k + 1]? = (bM (ps.map some) y)[k]? := by
         show (bM (ps.map some) (p.av (ar (ps.map some)) x).2)[k]? = _; rw [e2]
       cases p' <;> cases Ii <;> simp only at h2 ⊢ <;> (try exact h2)
       · obtain ⟨B, q1, q2, q3⟩ := h2; exact ⟨B, eh.trans q1, q2, q3⟩
       · obtain ⟨xd, q1, q2⟩ := h2; exact ⟨xd, eh.trans q1, q2⟩
end Go.TM
namespace Go.TM
open Go Go.RowKit
theorem EU {P : Program} {fn : Func} {tm : Array Value} {w : World} {vals : List Value} (h : (fn.results.toList.mapM (AF tm)).run P w = .ok vals w) :
   (results fn tm).run P w = .ok (if hs : vals.toArray.size = 1 then vals.toArray[0] else .tuple vals.toArray) w := by
 have e : results fn tm = (do let vs ← fn.results.mapM (AF tm); pure (if h : vs.size = 1 then vs[0] else .tuple vs) : Sem Value) := rfl; rw [e, Array.mapM_eq_mapM_toList]; simp [Sem.run_bind, h]
theorem EV {c : Cz} {w : World} {mu : Mu} {lc : Nat → Nat → Loc} {cN : List AV} {args : Array Value} (hH : Handed c w mu) (hA : vH c w lc 0 cN args.toList) {ps : List AP} {x : ak (ar (ps.map some))} (hx : eo ps cN = some x) {n : Nat} (hn : ps.length ≤ n) :
   ∃ (zI : Mu) (c' : Cz), zI.m = mu.m ∧ zI.ok = mu.ok ∧ ka ps zI ∧ Dn zI lc 0 ps cN args.toList ∧ args.size = ps.length ∧ cN.length = ps.length ∧
     Rel w zI c' (start n ps x) { tmps := args ++ Array.replicate (n - args.size) undef, defers := [] } w := by
 obtain ⟨l1, l2, hold⟩ := uK ps 0 cN args.toList hx hA; have Lg := yV ps cN hx; have AI : args.size = ps.length := by rw [l2]; simp
 let a : Act := { tmps := args ++ Array.replicate (n - args.size) undef, defers := [] }
 have O5 : ∀ k v, args.toList[k]? = some v → a.eval (.tmp k) = v := by
   intro k v hk; have bP : k < args.size := by
     have := (List.getElem?_eq_some_iff.1 hk).1; simpa using this
   show (args ++ Array.replicate (n - args.size) undef).getD k undef = v; rw [Array.getD_eq_getD_getElem?, Array.getElem?_append_left bP]; rw [Array.getElem?_toList] at hk; rw [hk]; rfl
 let zI : Mu := { m := mu.m, ok := mu.ok, an := AG lc 0 cN args.toList }
 have hlen : (bM (ps.map some) x ++ List.replicate (n + 1 - ps.length) none).length = n + 1 := by
   rw [List.length_append, nZ]; simp; omega
 have BP : ∀ (i : Nat) (av : AV), (bM (ps.map some) x ++ List.replicate (n + 1 - ps.length) none)[i]? = some (some av) → (bM (ps.map some) x)[i]? = some (some av) := by
   intro i av hi
   by_cases h : i < (bM (ps.map some) x).length
   · rwa [List.getElem?_append_left h] at hi
   · rw [List.getElem?_append_right (by omega), List.getElem?_replicate] at hi
     split at hi <;> simp at hi
 have yd : yL w zI c w := ⟨fun b l hb => ⟨hH.lt b l hb, (hH.lb b l hb).imp id fun hh => .inr ((hH.m b).2 ⟨l, hb, hh⟩)⟩, fun b _ hb => .inr ((hH.ok b).2 hb), ⟨rfl, rfl, rfl, Nat.le_refl _⟩, fun _ _ _ => rfl⟩; have QL : yf c w lc a 0 (bM (ps.map some) x ++ List.replicate (n + 1 - ps.length) none) := by
   intro i av hi; obtain ⟨v, h1, h2⟩ := hold i av (BP i av hi); have := O5 i v h1; rw [Nat.zero_add] at h2 ⊢; rw [this]; exact h2
 have O6 : ∀ k av v, cN[k]? = some av → args.toList[k]? = some v → qa c w k (lc k) av v := by
   have key : ∀ (cN : List AV) (i : Nat) (vs : List Value), vH c w lc i cN vs → ∀ k av v, cN[k]? = some av → vs[k]? = some v → qa c w (i + k) (lc (i + k)) av v := by
     intro cN
     induction cN with
     | nil => intro i vs _ k av v h; simp at h
     | cons a0 cN ih =>
       intro i vs h k av v h1 h2; obtain ⟨v0, l, rfl, g1, g2⟩ := h
       cases k with
       | zero => simp at h1 h2; subst h1 h2; exact g1
       | succ k =>
         have := ih (i + 1) l g2 k av v (by simpa using h1) (by simpa using h2)
         rwa [show i + 1 + k = i + (k + 1) by omega] at this
   intro k av v h1 h2; have := key cN 0 args.toList hA k av v h1 h2
   rwa [Nat.zero_add] at this
 have Um : ∀ p ∈ zI.an, K9 (bM (ps.map some) x ++ List.replicate (n + 1 - ps.length) none) lc a p := by
   intro p hp; obtain ⟨k, av, v, h1, h2, h3⟩ := qP 0 cN args.toList p hp; have hk : k < ps.length := by rw [l1]; exact (List.getElem?_eq_some_iff.1 h1).1
   simp only [Nat.zero_add] at h3; obtain ⟨p', q1, q2⟩ := Lg k av h1; rcases h3 with ⟨A, rfl, rfl⟩ | ⟨os, rfl, rfl⟩ | ⟨os, j, A, rfl, hj, rfl⟩
   · refine ⟨rfl, by rw [hlen]; omega, fun Ii QM => .inl ?_⟩
     cases p' with
     | io r dd =>
       obtain ⟨B, e1, e2, e3⟩ := q2; have := BP k Ii QM; rw [e1] at this; simp only [Option.some.injEq] at this; exact ⟨B, this.symm, fun _ => ⟨e2, e3, rfl⟩⟩
     | val _ _ => exact q2.elim
     | box _ _ => exact q2.elim
     | bo _ => exact q2.elim
   · refine ⟨rfl, by rw [hlen]; omega, fun xd _ => ?_⟩; obtain ⟨lN, vs, ty, e1, _⟩ := O6 k _ v h1 h2; rw [O5 k v h2, e1]
   · refine ⟨rfl, by rw [hlen]; omega, fun Ii QM => .inr ?_⟩
     cases p' with
     | io r dd => exact q2.elim
     | val _ _ => exact q2.elim
     | box _ _ => exact q2.elim
     | bo qs =>
       obtain ⟨xd, e1, e2⟩ := q2; have := BP k Ii QM; rw [e1] at this; simp only [Option.some.injEq] at this; obtain ⟨_, B, e3, e4, e5⟩ := e2 j A hj; refine ⟨xd, this.symm, fun A' dL => ?_⟩; rw [e3] at dL; injection dL with dL; injection dL with dL; subst dL; exact ⟨e4, e5, rfl⟩
 obtain ⟨c', hR⟩ := Rel.Ik (a := a) yd rfl QL Um; refine ⟨zI, c', rfl, rfl, fun p hp => ?_, fun k p av v h0 h1 h2 => ?_, AI, l1.symm, hR⟩
 · obtain ⟨k, av, v, h1, h2, h3⟩ := qP 0 cN args.toList p hp; simp only [Nat.zero_add] at h3; obtain ⟨p', q1, q2⟩ := Lg k av h1; rcases h3 with ⟨A, rfl, rfl⟩ | ⟨os, rfl, rfl⟩ | ⟨os, j, A, rfl, hj, rfl⟩
   · cases p' with
     | io r dd => exact .inl ⟨k, r, _, _, _, rfl, dd, q1⟩
     | val _ _ => exact q2.elim
     | box _ _ => exact q2.elim
     | bo _ => exact q2.elim
   · cases p' with
     | io r dd => exact q2.elim
     | val _ _ => exact q2.elim
     | box b qs => exact .inr (.inl ⟨k, _, b, qs, rfl, q1⟩)
     | bo _ => exact q2.elim
   · cases p' with
     | io r dd => exact q2.elim
     | val _ _ => exact q2.elim
     | box b qs => exact q2.elim
     | bo qs => exact .inr (.inr ⟨k, j, _, _, _, qs, rfl, q1⟩)
 · obtain ⟨p', q1, q2⟩ := Lg k av h1; rw [h0] at q1
   cases q1
   have hh := O6 k av v h1 h2; obtain ⟨a1, a2, a3⟩ := Im (lc := lc) 0 cN args.toList (by rw [← l1, l2]) k av v h1 h2; rw [Nat.zero_add] at a1 a2 a3 ⊢
   cases p with
   | val _ _ => cases av with
     | val _ _ => trivial
     | io _ => exact q2.elim
     | box _ => exact q2.elim
     | bo _ => exact q2.elim
   | bo qs => cases av with
     | val _ _ => exact q2.elim
     | io _ => exact q2.elim
     | box _ => exact q2.elim
     | bo os =>
       obtain ⟨us, rfl, hl, KX⟩ := hh; obtain ⟨xd, _, e2⟩ := q2; obtain ⟨n1, _⟩ := ba.K8 os 0 _ hl; refine ⟨us, rfl, fun j A hj => ⟨(e2 j A hj).1, ?_⟩⟩; have bP : j < us.toList.length := by rw [n1]; exact (List.getElem?_eq_some_iff.1 hj).1
       have hO : OwnAt c w (.bB k j) (lc k j) A us.toList[j] := KX j _ _ hj (List.getElem?_eq_getElem bP); exact ⟨_, List.getElem?_eq_getElem bP, hO.1, hO.2.1, a3 os rfl j A hj⟩
   | io r dd => cases av with
     | val _ _ => exact q2.elim
     | box _ => exact q2.elim
     | bo _ => exact q2.elim
     | io A =>
       have hO : OwnAt c w (.bB k 0) (lc k 0) A v := hh; exact ⟨hO.1, hO.2.1, a1 A rfl⟩
   | box _ _ => cases av with
     | val _ _ => exact q2.elim
     | io _ => exact q2.elim
     | bo _ => exact q2.elim
     | box os =>
       obtain ⟨lN, vs, ty, e1, _⟩ := hh; refine ⟨lN, e1, ?_⟩; have := a2 os rfl; rw [e1] at this; exact this
theorem GD {P : Program} {T : jb} (hT : fh P T) {w0 : World} {mu zI : Mu} (hm : zI.m = mu.m) (ff : zI.ok = mu.ok) {c : Cz} {st : St} {a : Act} {w : World} (h : Rel w0 zI c st a w) {fn : Func} {ps : List AP} {rs : List RP} (TX : vK T a.tmps fn.results.toList rs)
   {lc : Nat → Nat → Loc} {cN : List AV} {vs : List Value} (h1 : ps.length = cN.length) (h2 : ps.length = vs.length) (hl : Dn zI lc 0 ps cN vs) {e : Ex} {y : ak (bQ rs (bc ps))} (hf : xo rs ps e st = some y) :
   (e = .normal ∨ e = .ret) ∧ ∃ v, (results fn a.tmps).run P w = .ok v w ∧ ∃ c', yL w0 mu c' w ∧ oT c' w (eV rs (bc ps) y).1 v ∧ gd c' w lc 0 cN vs (kt ps (eV rs (bc ps) y).2) := by
 have he : e = .normal ∨ e = .ret := by
   cases e with
   | normal => exact .inl rfl
   | ret => exact .inr rfl
   | exit m => cases hf
 refine ⟨he, ?_⟩; have hf : ((qu st 0 ps).bind fun x => (AE st rs (bc ps) x.1).bind fun q => bif rj (bt q.2.1 ++ x.2.1) && apart (bt q.2.1 ++ x.2.1) (q.2.2 ++ x.2.2) then some q.1 else none) = some y := by
   rcases he with rfl | rfl <;> exact hf
 obtain ⟨qx, hqx, hf⟩ := Option.bind_eq_some_iff.1 hf; obtain ⟨qr, YU, hf⟩ := Option.bind_eq_some_iff.1 hf; obtain ⟨m7, hy⟩ := aD hf; injection hy with hy; obtain ⟨x1, u1, r1⟩ := qx; obtain ⟨x2, u2, r2⟩ := qr; subst hy; rw [Bool.and_eq_true] at m7; obtain ⟨a1, tb, a2, a3, a4⟩ := qO h ps 0 cN vs h1 h2 hl hqx; obtain ⟨b1, b2, b3, vals, b4, b5, b6⟩ := CD hT h fn.results.toList rs TX (bc ps) x1 YU; have yP : ∀ l ∈ bt u2 ++ u1, l.real = true := fun l hl => (List.mem_append.1 hl).elim (b3 l) (a1 l)
 have Gj := mi _ yP m7.1; have BI : ∀ p ∈ r2 ++ r1, Lb.sp p.1 p.2 ∉ bt u2 ++ u1 := by
   intro p hp hm; have h1 := List.all_eq_true.1 m7.2 p hp; have h2 := List.all_eq_true.1 h1 _ hm; rw [(Lb.xe rfl).2 rfl] at h2
   cases h2
 let tab := xg .gn 0 u2 ++ tb
 have Un : tab.map (·.1) = bt u2 ++ u1 := by show (xg .gn 0 u2 ++ tb).map _ = _; rw [List.map_append, xh, a2]
 have oQ := Classical.propDecidable
 let ρ : Lb → Option Lb := fun l => match look tab l with | some y => some y | none => if l = .out then some .out else none
 have hρt : ∀ p ∈ tab, ρ p.1 = some p.2 := by
   intro p hp; have := xf tab (by rw [Un]; exact Gj) hp; show (match look tab p.1 with | some y => some y | none => _) = _; rw [this]
 have xj : ∀ {l y}, look tab l = some y → l ∈ bt u2 ++ u1 := by
   intro l y hl; have := uI tab hl; rw [← Un]; exact List.mem_map.2 ⟨_, this, rfl⟩
 have hρr : ∀ p ∈ r2 ++ r1, ρ (.sp p.1 p.2) = none := by
   intro p hp; show (match look tab (.sp p.1 p.2) with | some y => some y | none => if Lb.sp p.1 p.2 = .out then some Lb.out else none) = none
   cases hl : look tab (.sp p.1 p.2) with
   | some y => exact absurd (xj hl) (BI p hp)
   | none => simp
 have hρo : ρ .out = some .out := by
   show (match look tab Lb.out with | some y => some y | none => if Lb.out = Lb.out then some Lb.out else none) = _
   cases hl : look tab Lb.out with
   | some y => have := yP _ (xj hl); cases this
   | none => simp
 have yd : yL w0 mu (c.map ρ) w := by
   refine ⟨fun b l hb => ?_, fun b hb hn => ?_, h.kept, by rw [← hm]; exact h.old⟩
   · obtain ⟨k, hk, e⟩ := Cz.map_some hb; obtain ⟨g1, g2⟩ := h.owned b k hk; refine ⟨g1, ?_⟩; rw [← hm]; refine g2.imp (fun e2 => ?_) id; subst e2; rw [hρo] at e
     cases e; rfl
   · rw [← hm, ← ff]
     cases hk : c.own b with
     | none => exact h.free b hb hk
     | some k =>
       have e : ρ k = none := (Cz.iT (ρ := ρ) hk).symm.trans hn; rcases (h.owned b k hk).2 with g | g | g
       · subst g; rw [hρo] at e; cases e
       · exact absurd g (Nat.not_le_of_lt hb)
       · exact .inl g
 have hX := a4 ρ (fun p hp => hρt p (List.mem_append_right _ hp)) (fun p hp => hρr p (List.mem_append_right _ hp)); have hR := b6 ρ 0 (fun k l hk => by
   have := hρt _ (List.mem_append_left tb (tG .gn 0 u2 k l hk)); exact this) (fun p hp => hρr p (List.mem_append_left _ hp))
 refine ⟨_, EU b4, c.map ρ, yd, ?_, by rw [b1]; exact hX⟩; have hlen : vals.length = (eV rs (bc ps) x2).1.length := by
   have : rs.length = fn.results.toList.length := by
     have key : ∀ (l : List ResultVar) (m : List RP), vK T a.tmps l m → m.length = l.length := by
       intro l
       induction l with
       | nil => intro m hm; cases m with
         | nil => rfl
         | cons _ _ => exact hm.elim
       | cons v l ih => intro m hm; cases m with
         | nil => exact hm.elim
         | cons r m => simp [ih m hm.2]
     exact key _ _ TX
   rw [b5, b2, this]
 by_cases hs : vals.toArray.size = 1
 · rw [dif_pos hs]; have wV : vals.length = 1 := by simpa using hs
   obtain ⟨v, rfl⟩ : ∃ v, vals = [v] := by
     cases vals with
     | nil => cases wV
     | cons v l => cases l with
       | nil => exact ⟨v, rfl⟩
       | cons _ _ => simp at wV
   rw [wV] at hlen
   cases ho : (eV rs (bc ps) x2).1 with
   | nil => rw [ho] at hlen; cases hlen
   | cons r l => cases l with
     | cons _ _ => rw [ho] at hlen; simp at hlen
     | nil =>
       rw [ho] at hR; exact .inl ⟨r, rfl, hR⟩
 · rw [dif_neg hs]; refine .inr ⟨by rw [← hlen]; simpa using hs, vals.toArray, rfl, by simpa using hR⟩
theorem EW {P : Program} {T : jb} (hT : fh P T) (hE : uX P T) {S : hU} (hS : kr P S) {D : jd} {f : FuncId} {fn : Func} {code : Code} {n : Nat} {ps : List AP} {rs : List RP} {L : kY (ak (bQ rs (bc ps)))} {O7 : Nat → Array Oper → Prop}
   {t : ak (ar (ps.map some)) → Option (ak (bQ rs (bc ps)))}
   (hf : P.funcs[f]? = some fn) (hb : fn.body = some code) (hn : fn.ntmps = n) (NG : ps.length ≤ n) (sZ : eA n code = true) (Ad : ∀ tm, vK T tm fn.results.toList rs)
   (hL : ∀ (w0 : World) (mu : Mu) (y : ak (bQ rs (bc ps))), ka ps mu → cR (km P w0 mu n L y) code)
   (hD : ∀ (w0 : World) (mu : Mu), oB (ak (bQ rs (bc ps))) P T S D w0 mu n O7) (Uo : du O7 code)
   (GF : ∀ (w0 : World) (mu : Mu) (c : Cz) (a : Act) (w : World) x, Rel w0 mu c (start n ps x) a w → a.tmps.size = n → ∃ c2 fG, Rel w0 mu c2 fG a w ∧ dt T S D L code fG (xo rs ps) = t x) : FnOk P f (jV ps rs t) := by
 intro c w mu lc cN args A y hH hA hs ho; unfold jV at hs
 cases hx : eo ps cN with
 | none => rw [hx] at hs; cases hs
 | some x =>
   rw [hx] at hs; simp only [Option.some.injEq] at hs; subst hs; have zJ : t x = some y := ho; obtain ⟨zI, c', hm, ff, AJ, Io, AI, Jg, hR⟩ := EV hH hA hx NG; refine calls_of_wp hf hb ?_; rw [hn]; have jv : (args ++ Array.replicate (n - args.size) undef).size = n := by simp; omega
   obtain ⟨c2, fG, YF, Up⟩ := GF w zI c' _ w x hR jv; refine xc (nY hT hE hS w zI n) (hD w zI) code sZ (hL w zI y AJ) Uo (fun {e} {c1} {xY} {a1} {w1} h1 h2 h3 => ?_) YF jv (Up.trans zJ); obtain ⟨he, v, mz, c2, Gv, hV, hX⟩ := GD (P := P) hT hm ff h1 (Ad a1.tmps) Jg.symm (by rw [← AI]; simp) Io h3; have Ax : a1.defers = [] ∧ ∃ v, (results fn a1.tmps).run P w1 = .ok v w1 ∧ (∃ v', Ending.returned v = .returned v' ∧ ∃ c', yL w mu c' w1 ∧ oT c' w1 (eV rs (bc ps) y).1 v' ∧ gd c' w1 lc 0 cN args.toList (kt ps (eV rs (bc ps) y).2)) :=
     ⟨h1.plain, v, mz, v, rfl, c2, Gv, hV, hX⟩
   rcases he with rfl | rfl <;> exact Ax
theorem Uq {P : Program} {T : jb} (hT : fh P T) (hE : uX P T) {S : hU} (hS : kr P S) {D : jd} {f : FuncId} {fn : Func} {code : Code} {n : Nat} {ps : List AP} {rs : List RP} {L : kY (ak (bQ rs (bc ps)))} {O7 : Nat → Array Oper → Prop}
   {t : ak (ar (ps.map some)) → Option (ak (bQ rs (bc ps)))}
   (hf : P.funcs[f]? = some fn) (hb : fn.body = some code) (hn : fn.ntmps = n) (NG : ps.length ≤ n) (sZ : eA n code = true) (Ad : ∀ tm, vK T tm fn.results.toList rs)
   (hL : ∀ (w0 : World) (mu : Mu) (y : ak (bQ rs (bc ps))), ka ps mu → cR (km P w0 mu n L y) code)
   (hD : ∀ (w0 : World) (mu : Mu), oB (ak (bQ rs (bc ps))) P T S D w0 mu n O7) (Uo : du O7 code)
   (GF : ∀ x, dt T S D L code (start n ps x) (xo rs ps) = t x) : FnOk P f (jV ps rs t) :=
 EW hT hE hS hf hb hn NG sZ Ad hL hD Uo (fun _ _ c _ _ x h _ => ⟨c, _, h, GF x⟩)
end Go.TM
namespace Go.TM
open Go Go.RowKit
def iter {X E : Type} (round : X → Option (Sum X E)) : Nat → X → Option E
 | 0, _ => none
 | n + 1, x => match round x with
   | some (.inl y) => iter round n y
   | some (.inr e) => some e
   | none => none
theorem yh {X E : Type} {round : X → Option (Sum X E)} : (n : Nat) → {x : X} → {e : E} → iter round n x = some e → ∀ m, n ≤ m → iter round m x = some e
 | 0, _, _, h, _, _ => by cases h
 | n + 1, x, e, h, 0, hm => by omega
 | n + 1, x, e, h, m + 1, hm => by
   unfold iter at h ⊢
   cases hr : round x with
   | none => rw [hr] at h; cases h
   | some z => cases z with
     | inl y => rw [hr] at h; exact yh n h m (by omega)
     | inr e' => rw [hr] at h; exact h
noncomputable def aE {X E : Type} (round : X → Option (Sum X E)) (x : X) : Option E :=
 have := Classical.propDecidable (∃ e n, iter round n x = some e)
 if h : ∃ e n, iter round n x = some e then some (Classical.choose h) else none
theorem AK {X E : Type} {round : X → Option (Sum X E)} {x : X} {e : E} {n : Nat} (h : iter round n x = some e) : aE round x = some e := by
 have hex : ∃ e n, iter round n x = some e := ⟨e, n, h⟩; unfold aE; simp only; rw [dif_pos hex]; obtain ⟨m, hm⟩ := Classical.choose_spec hex; have h1 := yh m hm (max m n) (Nat.le_max_left _ _); have h2 := yh n h (max m n) (Nat.le_max_right _ _); rw [h1] at h2; exact h2
theorem rH {X E : Type} {round : X → Option (Sum X E)} {x : X} {e : E} (h : aE round x = some e) : ∃ n, iter round n x = some e := by
 unfold aE at h; simp only at h
 split at h
 · rename_i hex; injection h with h; rw [← h]; exact Classical.choose_spec hex
 · cases h
theorem iv {X E : Type} (round : X → Option (Sum X E)) (x : X) : aE round x = match round x with | some (.inl y) => aE round y | some (.inr e) => some e | none => none := by
 cases hr : round x with
 | none =>
   cases h : aE round x with
   | none => rfl
   | some e =>
     obtain ⟨n, hn⟩ := rH h
     cases n with
     | zero => cases hn
     | succ n => unfold iter at hn; rw [hr] at hn; cases hn
 | some z => cases z with
   | inr e => exact AK (n := 1) (by unfold iter; rw [hr])
   | inl y =>
     simp only
     cases h : aE round y with
     | some e =>
       obtain ⟨n, hn⟩ := rH h; exact AK (n := n + 1) (by unfold iter; rw [hr]; exact hn)
     | none =>
       cases h2 : aE round x with
       | none => rfl
       | some e =>
         obtain ⟨n, hn⟩ := rH h2
         cases n with
         | zero => cases hn
         | succ n =>
           unfold iter at hn; rw [hr] at hn; rw [AK hn] at h
           cases h
def AL (st : St) (hp : List (Option AP)) : Option (ak (ar hp)) :=
 (lg st 0 hp).bind fun q => bif rj q.2.1 && apart q.2.1 q.2.2 then some q.1 else none
def l6 (hp : List (Option AP)) (x : ak (ar hp)) : St := lO 0 (bM hp x)
def fp : List AP → List (Option AP) → Bool
 | [], _ => true
 | .val _ _ :: ps, _ :: hp => fp ps hp
 | .io _ _ :: ps, o :: hp => (match o with | none => true | some (.io _ _) => true | _ => false) && fp ps hp
 | .box _ _ :: ps, o :: hp => (match o with | none => true | some (.box l _) => l | some (.val _ _) => true | _ => false) && fp ps hp
 | .bo _ :: _, _ :: _ => false
 | _ :: _, [] => false
theorem rI : (ps : List AP) → (hp : List (Option AP)) → fp ps hp = true → ∀ (i : Nat) (p : AP), ps[i]? = some p → ∃ o, hp[i]? = some o ∧ match p with
   | .val _ _ => True
   | .io _ _ => o = none ∨ ∃ r d, o = some (.io r d)
   | .box _ _ => o = none ∨ (∃ a b, o = some (.val a b)) ∨ ∃ b, o = some (.box true b)
   | .bo _ => False
 | [], _, _ => by intro i p h; simp at h
 | p :: ps, [], h => by cases p <;> simp [fp] at h
 | p :: ps, o :: hp, h => by
   intro i p' hi; have ez : fp ps hp = true := by
     cases p with
     | val _ _ => exact h
     | io _ => unfold fp at h; rw [Bool.and_eq_true] at h; exact h.2
     | bo _ => cases h
     | box _ _ => unfold fp at h; rw [Bool.and_eq_true] at h; exact h.2
   cases i with
   | succ i => exact (rI ps hp ez i p' (by simpa using hi)).imp fun o ho => ⟨by simpa using ho.1, ho.2⟩
   | zero =>
     simp only [List.getElem?_cons_zero, Option.some.injEq] at hi; subst hi; refine ⟨o, rfl, ?_⟩
     cases p with
     | val _ _ => trivial
     | bo _ => cases h
     | io _ =>
       unfold fp at h; rw [Bool.and_eq_true] at h
       cases o with
       | none => exact .inl rfl
       | some q => cases q with
         | io r d => exact .inr ⟨r, d, rfl⟩
         | val _ _ => cases h.1
         | box _ _ => cases h.1
         | bo _ => cases h.1
     | box _ _ =>
       unfold fp at h; rw [Bool.and_eq_true] at h
       cases o with
       | none => exact .inl rfl
       | some q => cases q with
         | io r d => cases h.1
         | bo _ => cases h.1
         | val a b => exact .inr (.inl ⟨a, b, rfl⟩)
         | box l b =>
           have : l = true := h.1; subst this; exact .inr (.inr ⟨b, rfl⟩)
end Go.TM
namespace Go.TM
open Go Go.RowKit
theorem Lh {st : St} {k : Nat} {rr : RT} {dd : Md} {t : RT} {V : V} {y : ak t} {x : ak (.cons (.sl rr) t)} {u : List Lb} {r : List (Nat × Nat)} (h : yT st k (.io rr dd) t V y = some (x, u, r)) : ∃ A, aQ st k 0 1 = some A ∧ bn rr A.xs = some x.1 := by
 cases V with
 | agg _ => cases h
 | kV _ => cases h
 | one cx => cases cx with
   | ref a j g vw => cases vw with
     | full =>
       have h : (bif Nat.beq a k && (Nat.beq j 0 && Nat.beq g 1) then ((aQ st a j g).bind fun A => bif A.own && A.md.is dd then (bn rr A.xs).map fun xs => ((xs, y), [Lb.sp a j], ([] : List (Nat × Nat))) else none) else none) = some (x, u, r) := h; obtain ⟨h1, h2⟩ := aD h; rw [Bool.and_eq_true, Bool.and_eq_true] at h1; have e1 := Nat.eq_of_beq_eq_true h1.1; have e2 := Nat.eq_of_beq_eq_true h1.2.1; have e3 := Nat.eq_of_beq_eq_true h1.2.2; subst e1 e2 e3; obtain ⟨A, hA, h3⟩ := Option.bind_eq_some_iff.1 h2; obtain ⟨_, h4⟩ := aD h3; obtain ⟨xs, O4, e⟩ := Option.map_eq_some_iff.1 h4; injection e with e _; exact ⟨A, hA, by rw [O4, ← e]; rfl⟩
     | «from» _ => cases h
     | sub _ _ => cases h
   | _ => cases h
theorem Jl {st : St} {k : Nat} {qs : List OP} {t : RT} {V : V} {y : ak t} {x : ak (jT qs t)} {u : List Lb} {r : List (Nat × Nat)} (h : yT st k (.box true qs) t V y = some (x, u, r)) : V = .one (.ptr k 1 0) ∧ ∃ cs, cX st k 1 = some cs := by
 cases V with
 | agg _ => cases h
 | kV _ => cases h
 | one cx => cases cx with
   | ptr b g off =>
     have h : (bif Nat.beq off 0 && (!true || (Nat.beq b k && Nat.beq g 1)) then ((cX st b g).bind fun cs => (ji st qs t cs y).map fun q => (q.1, Lb.box b :: bt q.2.1, q.2.2)) else none) = some (x, u, r) := h; obtain ⟨h1, h2⟩ := aD h; simp only [Bool.not_true, Bool.false_or] at h1; rw [Bool.and_eq_true, Bool.and_eq_true] at h1; have e1 := Nat.eq_of_beq_eq_true h1.1; have e2 := Nat.eq_of_beq_eq_true h1.2.1; have e3 := Nat.eq_of_beq_eq_true h1.2.2; subst e1 e2 e3; obtain ⟨cs, tl, _⟩ := Option.bind_eq_some_iff.1 h2; exact ⟨rfl, cs, tl⟩
   | _ => cases h
theorem tP {w0 : World} {mu : Mu} {c : Cz} {st : St} {a : Act} {w : World} (h : Rel w0 mu c st a w) : (l : List (Option AP)) → (k : Nat) → {x : ak (ar l)} → {u : List Lb} → {r : List (Nat × Nat)} → lg st k l = some (x, u, r) → ∀ (i : Nat),
   (∀ rr dd, l[i]? = some (some (.io rr dd)) → ∃ B A : fK, (bM l x)[i]? = some (some (.io B)) ∧ aQ st (k + i) 0 1 = some A ∧ B.r.width = A.r.width ∧ B.xs.length = A.xs.length) ∧
   (∀ qs, l[i]? = some (some (.box true qs)) → (∃ cs, cX st (k + i) 1 = some cs) ∧ bI st (k + i) = .one (.ptr (k + i) 1 0)) ∧
   (l[i]? = some none → (bM l x)[i]? = some none) ∧ (∀ ag b, l[i]? = some (some (.val ag b)) → ∃ os, (bM l x)[i]? = some (some (.val ag os)))
 | [], k, x, u, r, he => by intro i; simp
 | none :: l, k, x, u, r, he => by
   intro i
   cases i with
   | zero => exact ⟨fun _ _ h => by simp at h, fun _ h => by simp at h, fun _ => rfl, fun _ _ h => by simp at h⟩
   | succ i =>
     have := tP h l (k + 1) he i; rw [show k + 1 + i = k + (i + 1) by omega] at this; exact this
 | some p :: l, k, x, u, r, he => by
   intro i; unfold lg at he
   cases h1 : lg st (k + 1) l with
   | none => simp [h1] at he
   | some q1 =>
     obtain ⟨y, us, rs⟩ := q1; simp only [h1] at he
     cases h2 : yT st k p (ar l) (bI st k) y with
     | none => simp [h2] at he
     | some q2 =>
       obtain ⟨x1, u1, r1⟩ := q2; simp only [h2] at he; injection he with he; injection he with e1 e2; subst e1
       cases i with
       | succ i =>
         have hh := tP h l (k + 1) h1 i; rw [show k + 1 + i = k + (i + 1) by omega] at hh; have e : (p.av (ar l) x1).2 = y := (xm h k (h.eO k) h2).1; have e2 : (bM (some p :: l) x1)[i + 1]? = (bM l y)[i]? := by
           show (bM l (p.av (ar l) x1).2)[i]? = _; rw [e]
         rw [e2]; exact hh
       | zero =>
         have e2 : (bM (some p :: l) x1)[0]? = some (some (p.av (ar l) x1).1) := rfl; rw [e2]; simp only [List.getElem?_cons_zero, Option.some.injEq, Nat.add_zero]; refine ⟨fun rr dd e => ?_, fun qs e => ?_, (fun e => by cases e), fun ag b e => ?_⟩
         · subst e; obtain ⟨A, hA, hc⟩ := Lh h2; obtain ⟨er, J8⟩ := aX hc; refine ⟨_, A, rfl, hA, by show rr.width = _; rw [← er], ?_⟩; show List.length (x1.1 : List (ak rr)) = _; rw [J8]
           cases er
           rfl
         · subst e; obtain ⟨q1, q2⟩ := Jl h2; exact ⟨q2, q1⟩
         · subst e; exact ⟨_, rfl⟩
end Go.TM
namespace Go.TM
open Go Go.RowKit
theorem AM {w0 : World} {mu : Mu} {c : Cz} {st : St} {a : Act} {w : World} (h : Rel w0 mu c st a w) {ps : List AP} (hs : ka ps mu) {hp : List (Option AP)} (oP : fp ps hp = true) {x : ak (ar hp)} (hx : AL st hp = some x) : ∃ c', Rel w0 mu c' (l6 hp x) a w := by
 obtain ⟨q, hq, Gk⟩ := Option.bind_eq_some_iff.1 hx; obtain ⟨m7, BO⟩ := aD Gk; injection BO with BO; obtain ⟨x0, u, r⟩ := q; subst BO; rw [Bool.and_eq_true] at m7; obtain ⟨yP, tb, KT, T4, hold⟩ := tO h hp 0 hq; have Ur := tP h hp 0 hq; have Gj := mi _ yP m7.1; have BI : ∀ p ∈ r, Lb.sp p.1 p.2 ∉ u := by
   intro p hp hm; have h1 := List.all_eq_true.1 m7.2 p hp; have h2 := List.all_eq_true.1 h1 _ hm; rw [(Lb.xe rfl).2 rfl] at h2
   cases h2
 have oQ := Classical.propDecidable
 let ρ : Lb → Option Lb := fun l => match look tb l with | some y => some y | none => if l = .out then some .out else none
 have hρt : ∀ p ∈ tb, ρ p.1 = some p.2 := by
   intro p hp; have := xf tb (by rw [KT]; exact Gj) hp; show (match look tb p.1 with | some y => some y | none => _) = _; rw [this]
 have xj : ∀ {l y}, look tb l = some y → l ∈ u := by
   intro l y hl; have := uI tb hl; rw [← KT]; exact List.mem_map.2 ⟨_, this, rfl⟩
 have hρr : ∀ p ∈ r, ρ (.sp p.1 p.2) = none := by
   intro p hp; show (match look tb (.sp p.1 p.2) with | some y => some y | none => if Lb.sp p.1 p.2 = .out then some Lb.out else none) = none
   cases hl : look tb (.sp p.1 p.2) with
   | some y => exact absurd (xj hl) (BI p hp)
   | none => simp
 have hρo : ρ .out = some .out := by
   show (match look tb Lb.out with | some y => some y | none => if Lb.out = Lb.out then some Lb.out else none) = _
   cases hl : look tb Lb.out with
   | some y => have := yP _ (xj hl); cases this
   | none => simp
 have yd : yL w0 mu (c.map ρ) w := by
   refine ⟨fun b l hb => ?_, fun b hb hn => ?_, h.kept, h.old⟩
   · obtain ⟨k, hk, e⟩ := Cz.map_some hb; obtain ⟨g1, g2⟩ := h.owned b k hk; refine ⟨g1, g2.imp (fun e2 => ?_) id⟩; subst e2; rw [hρo] at e
     cases e; rfl
   · cases hk : c.own b with
     | none => exact h.free b hb hk
     | some k =>
       have e : ρ k = none := (Cz.iT (ρ := ρ) hk).symm.trans hn; rcases (h.owned b k hk).2 with g | g | g
       · subst g; rw [hρo] at e; cases e
       · exact absurd g (Nat.not_le_of_lt hb)
       · exact .inl g
 refine Rel.Ik yd h.plain (hold ρ hρt hρr) (fun p hpm => ?_); have NV := h.dK p hpm; have hlen : ∀ (i : Nat) (o : Option AP), hp[i]? = some o → i < (bM hp x0).length := fun i o ho => by rw [nZ]; exact (List.getElem?_eq_some_iff.1 ho).1
 rcases hs p hpm with ⟨i, rr, W, n, l, rfl, dd, Qr⟩ | ⟨i, lN, b, qs, rfl, Qr⟩ | ⟨i, j, W, n, l, qs, rfl, Qr⟩
 · obtain ⟨o, ho, Us⟩ := rI ps hp oP i _ Qr; refine ⟨rfl, hlen i o ho, fun av EF => .inl ?_⟩; rcases Us with rfl | ⟨r2, d2, rfl⟩
   · rw [(Ur i).2.2.1 ho] at EF; cases EF
   · obtain ⟨B, A, e1, e2, e3, e4⟩ := (Ur i).1 r2 d2 ho; rw [e1] at EF; simp only [Option.some.injEq] at EF; rw [Nat.zero_add] at e2; obtain ⟨f1, f2, f3⟩ := NV.2 A e2; exact ⟨B, EF.symm, fun _ => ⟨e3.trans f1, e4.trans f2, f3⟩⟩
 · obtain ⟨o, ho, Us⟩ := rI ps hp oP i _ Qr; refine ⟨rfl, hlen i o ho, fun os qo => ?_⟩; rcases Us with rfl | ⟨a1, b1, rfl⟩ | ⟨b1, rfl⟩
   · rw [(Ur i).2.2.1 ho] at qo; cases qo
   · obtain ⟨xd, e⟩ := (Ur i).2.2.2 a1 b1 ho; rw [e] at qo; cases qo
   · obtain ⟨⟨cs, tl⟩, hv⟩ := (Ur i).2.1 b1 ho; rw [Nat.zero_add] at tl hv; have qL := h.eO i; rw [hv] at qL; rw [qL.2.2 cs tl, NV.2 cs tl]
 · obtain ⟨o, ho, Us⟩ := rI ps hp oP i _ Qr; exact Us.elim
def yl (id : Nat) (hp e0 e1 : List (Option AP)) : Ex → St → Option (Sum (ak (ar hp)) (Sum (ak (ar e0)) (ak (ar e1))))
 | .normal, st => (AL st hp).map .inl
 | .exit m, st => bif Nat.beq m id then (AL st e0).map fun y => .inr (.inl y) else none
 | .ret, st => (AL st e1).map fun y => .inr (.inr y)
noncomputable def ym {R : Type} (hp e0 e1 : List (Option AP)) (round : ak (ar hp) → Option (Sum (ak (ar hp)) (Sum (ak (ar e0)) (ak (ar e1))))) (st : St) (k : Ex → St → Option R) : Option R :=
 (AL st hp).bind fun x => (aE round x).bind fun z => match z with
   | .inl y => k .normal (l6 e0 y)
   | .inr y => k .ret (l6 e1 y)
theorem NW {R : Type} {P : Program} {T : jb} {S : hU} {D : jd} {n id : Nat} {w0 : World} {mu : Mu} {ps : List AP} {hp e0 e1 : List (Option AP)} {b : Code} {r : R} {L : kY R} {O7 : Nat → Array Oper → Prop}
   {L' : kY (Sum (ak (ar hp)) (Sum (ak (ar e0)) (ak (ar e1))))} {round : ak (ar hp) → Option (Sum (ak (ar hp)) (Sum (ak (ar e0)) (ak (ar e1))))}
   (BQ : p9 P T S w0 mu n) (hD : oB (Sum (ak (ar hp)) (Sum (ak (ar e0)) (ak (ar e1)))) P T S D w0 mu n O7) (hs : ka ps mu) (hf : (fp ps hp && (fp ps e0 && fp ps e1)) = true) (sZ : eA n b = true) (Uo : du O7 b)
   (Ae : ∀ z, cR (km P w0 mu n L' z) b) (GG : ∀ x, dt T S D L' b (l6 hp x) (yl id hp e0 e1) = round x) (hL : ∀ st k, L id b st k = ym hp e0 e1 round st k) : km P w0 mu n L r id b := by
 intro k Q hk c st a w h hn hv; rw [Bool.and_eq_true, Bool.and_eq_true] at hf; rw [hL] at hv; unfold ym at hv; obtain ⟨x, hx, hv⟩ := Option.bind_eq_some_iff.1 hv; obtain ⟨z, hz, hv⟩ := Option.bind_eq_some_iff.1 hv; obtain ⟨c1, h1⟩ := AM h hs hf.1 hx; obtain ⟨m, hm⟩ := rH hz; refine wp_block ?_; refine wp_loop_ghost (fun m a w => ∃ x c, Rel w0 mu c (l6 hp x) a w ∧ a.tmps.size = n ∧ iter round m x = some z) m ⟨x, c1, h1, hn, hm⟩ ?_
 rintro m a w ⟨x, c, hR, hn, hi⟩
 cases m with
 | zero => cases hi
 | succ m =>
   unfold iter at hi
   cases hr : round x with
   | none => rw [hr] at hi; cases hi
   | some y =>
     rw [hr] at hi; refine xc BQ hD b sZ (Ae y) Uo (fun {e} {c2} {fG} {a2} {w2} g1 g2 g3 => ?_) hR hn ((GG x).trans hr)
     cases e with
     | normal =>
       obtain ⟨x2, q1, rfl⟩ := Option.map_eq_some_iff.1 g3; obtain ⟨c3, g4⟩ := AM g1 hs hf.1 q1; exact ⟨m, Nat.lt_succ_self m, x2, c3, g4, g2, hi⟩
     | exit m' =>
       obtain ⟨yW, g5⟩ := aD g3; have yW := Nat.eq_of_beq_eq_true yW; subst yW; obtain ⟨x2, q1, rfl⟩ := Option.map_eq_some_iff.1 g5; injection hi with hi; subst hi; obtain ⟨c3, g4⟩ := AM g1 hs hf.2.1 q1; show (if m' = m' then Q .normal a2 w2 else Q (.exit m') a2 w2); rw [if_pos rfl]; exact hk g4 g2 hv
     | ret =>
       obtain ⟨x2, q1, rfl⟩ := Option.map_eq_some_iff.1 g3; injection hi with hi; subst hi; obtain ⟨c3, g4⟩ := AM g1 hs hf.2.2 q1; exact hk g4 g2 hv
end Go.TM
namespace Go.TM
open Go Go.RowKit
section
variable {P : Program} {ops : Array Oper} {Q : Exit → Act → World → Prop} {md : Region.Mode} {ds : List Nat}
def qv (md : Region.Mode) (ops : Array Oper) (i : Nat) : Nat → Nat → Bool
 | 0, _ => false
 | fuel + 1, d => match ops[d]? with
   | some o => o.after.any fun e => Region.binds md e && (e.on == i || qv md ops i fuel e.on)
   | none => false
def qw (md : Region.Mode) (ops : Array Oper) (aK : Array Bool) : Prop :=
 ∀ j oj, ops[j]? = some oj → aK.getD j false = true → ∀ e ∈ oj.after, Region.binds md e = true → aK.getD e.on false = true
theorem qw.set {aK : Array Bool} {i : Nat} (h : qw md ops aK) (hi : i ∈ Region.ready md ops aK) : qw md ops (aK.setIfInBounds i true) := by
 obtain ⟨_, oi, Ip, oU⟩ := mem_ready.1 hi; intro j oj hj hl e he hb
 by_cases NX : i = j
 · subst NX; have : oj = oi := Option.some.inj (hj.symm.trans Ip); subst this; exact getD_set_true (oU e he hb)
 · rw [getD_set_ne false NX] at hl; exact getD_set_true (h j oj hj hl e he hb)
theorem qw.none (md : Region.Mode) (ops : Array Oper) (n : Nat) : qw md ops (Array.replicate n false) := by
 intro j oj _ hl; simp [Array.getD_eq_getD_getElem?, Array.getElem?_replicate] at hl
 split at hl <;> simp at hl
theorem xq {aK : Array Bool} {i : Nat} (hc : qw md ops aK) : ∀ (fuel d : Nat), qv md ops i fuel d = true → aK.getD d false = true → aK.getD i false = true
 | 0, _, h, _ => by simp [qv] at h
 | fuel + 1, d, h, hl => by
   unfold qv at h
   cases ho : ops[d]? with
   | none => rw [ho] at h; simp at h
   | some o =>
     rw [ho] at h; obtain ⟨e, he, h1⟩ := Array.any_eq_true'.1 h; simp only [Bool.and_eq_true, Bool.or_eq_true, beq_iff_eq] at h1; have hle := hc d o ho hl e he h1.1; rcases h1.2 with h2 | h2
     · rw [← h2]; exact hle
     · exact xq hc fuel e.on h2 hle
theorem zy {aK : Array Bool} {i d fuel : Nat} (hc : qw md ops aK) (hr : qv md ops i fuel d = true) (D6 : aK.getD i true = false) : d ∉ Region.ready md ops aK := by
 intro hd; obtain ⟨_, o, ho, oU⟩ := mem_ready.1 hd; have hi : aK.getD i false = true := by
   cases fuel with
   | zero => simp [qv] at hr
   | succ n =>
     unfold qv at hr; rw [ho] at hr; obtain ⟨e, he, h1⟩ := Array.any_eq_true'.1 hr; simp only [Bool.and_eq_true, Bool.or_eq_true, beq_iff_eq] at h1; have hle := oU e he h1.1; rcases h1.2 with h2 | h2
     · rw [← h2]; exact hle
     · exact xq hc n e.on h2 hle
 rcases Nat.lt_or_ge i aK.size with h' | h'
 · simp [h'] at D6 hi; rw [D6] at hi
   cases hi
 · simp [Array.getElem?_eq_none h'] at D6
def l7 (P : Program) (md : Region.Mode) (ops : Array Oper) (Q : Exit → Act → World → Prop) (ds : List Nat) : Nat → Array Bool → Act → World → Prop
 | 0, aK, a, w => Region.ready md ops aK = [] ∧ Q .normal a w
 | fuel + 1, aK, a, w =>
   (Region.ready md ops aK = [] → Q .normal a w) ∧
   ∀ i ∈ Region.ready md ops aK, wpOp P ops Q i (fun a' w' => (i ∉ ds → gr w w') ∧ l7 P md ops Q ds fuel (aK.setIfInBounds i true) a' w') a w
theorem vq : ∀ (fuel : Nat) (aK : Array Bool) (a : Act) (w : World), l7 P md ops Q ds fuel aK a w → wpAny P md ops Q fuel aK a w
 | 0, _, _, _, h => h
 | fuel + 1, _, _, _, h => ⟨h.1, fun i hi => wpOp_mono (fun a' w' h' => vq fuel _ a' w' h'.2) (h.2 i hi)⟩
theorem Dp {i : Nat} {oi : Oper} {v : Value} {w0 : World} (hi : ops[i]? = some oi) (EX : ∀ (j : Nat) (o : Oper) cs b, ops[j]? = some o → o.op ≠ .select cs b)
   (hQ : ∀ c a w, Q (.panic c) (a.put oi.dst v) w → Q (.panic c) a w) (n : Nat) :
   ∀ (fuel : Nat) (aK : Array Bool) (a : Act) (w : World),
     (∀ j oj, ops[j]? = some oj → j ≠ i → aK.getD j true = false → (∀ e ∈ oj.after, Region.binds md e = true → e.on ≠ i) → oi.apart ops oj = true) →
     qw md ops aK → (∀ d ∈ ds, aK.getD d true = false → qv md ops i n d = true) →
     i ∈ Region.ready md ops aK → YieldsIf P ops (gr w0) oi v a → gr w0 w →
     l7 P md ops Q ds fuel (aK.setIfInBounds i true) (a.put oi.dst v) w → l7 P md ops Q ds (fuel + 1) aK a w := by
 intro fuel
 induction fuel with
 | zero =>
   intro aK a w _ _ _ hr hy hS H; refine ⟨fun h => (by rw [h] at hr; cases hr), fun j hj => ?_⟩
   by_cases Dq : j = i
   · subst Dq; exact hy.wpOp hi hS ⟨fun _ => gr.refl w, H⟩
   · have := ready_mono hj Dq; rw [H.1] at this
     cases this
 | succ fuel ih =>
   intro aK a w Al hc hd hr hy hS H; refine ⟨fun h => (by rw [h] at hr; cases hr), fun j hj => ?_⟩
   by_cases Dq : j = i
   · subst Dq; exact hy.wpOp hi hS ⟨fun _ => gr.refl w, H⟩
   · have h1 := H.2 j (ready_mono hj Dq); obtain ⟨GH, oj, QN, oU⟩ := mem_ready.1 hj; have Jm := (mem_ready.1 hr).1; have Jj : ∀ e ∈ oj.after, Region.binds md e = true → e.on ≠ i := fun e he hb heq => by
       have h1 := oU e he hb; rw [heq] at h1; rcases Nat.lt_or_ge i aK.size with h' | h'
       · simp [h'] at Jm h1; rw [Jm] at h1; cases h1
       · simp [Array.getElem?_eq_none h'] at h1
     have hjd : j ∉ ds := fun hm => zy hc (hd j hm GH) Jm hj
     have h2 := wpOp_putIf QN (Al j oj QN Dq GH Jj) (fun cs b => EX i oi cs b hi) (fun cs b => EX j oj cs b QN) hQ hy h1; have GI : ∀ k ok, ops[k]? = some ok → k ≠ i → (aK.setIfInBounds j true).getD k true = false →
         (∀ e ∈ ok.after, Region.binds md e = true → e.on ≠ i) → oi.apart ops ok = true := fun k ok hk YV D6 Qw => by
       refine Al k ok hk YV ?_ Qw
       by_cases F0 : j = k
       · subst F0; exact GH
       · rw [getD_set_ne true F0] at D6; exact D6
     have GB : ∀ d ∈ ds, (aK.setIfInBounds j true).getD d true = false → qv md ops i n d = true := fun d hm D6 => by
       refine hd d hm ?_
       by_cases F0 : j = d
       · subst F0; exact GH
       · rw [getD_set_ne true F0] at D6; exact D6
     refine wpOp_mono (fun a' w' h3 => ⟨h3.2.1, ih (aK.setIfInBounds j true) a' w' GI (hc.set hj) GB (ready_mono hr (Ne.symm Dq)) h3.1 (hS.trans (h3.2.1 hjd)) ?_⟩) h2; rw [Array.setIfInBounds_comm _ _ Dq]; exact h3.2.2
theorem GJ {i : Nat} {oi : Oper} {v : Value} (hi : ops[i]? = some oi) (EX : ∀ (j : Nat) (o : Oper) cs b, ops[j]? = some o → o.op ≠ .select cs b)
   (hQ : ∀ c a w, Q (.panic c) (a.put oi.dst v) w → Q (.panic c) a w) :
   ∀ (fuel : Nat) (aK : Array Bool) (a : Act) (w : World),
     (∀ j oj, ops[j]? = some oj → j ≠ i → aK.getD j true = false → (∀ e ∈ oj.after, Region.binds md e = true → e.on ≠ i) → oi.apart ops oj = true) →
     i ∈ Region.ready md ops aK → Yields P ops oi v a →
     l7 P md ops Q ds fuel (aK.setIfInBounds i true) (a.put oi.dst v) w → l7 P md ops Q ds (fuel + 1) aK a w := by
 intro fuel
 induction fuel with
 | zero =>
   intro aK a w _ hr hy H; refine ⟨fun h => (by rw [h] at hr; cases hr), fun j hj => ?_⟩
   by_cases Dq : j = i
   · subst Dq; exact (hy.yieldsIf (S := fun _ => True)).wpOp hi trivial ⟨fun _ => gr.refl w, H⟩
   · have := ready_mono hj Dq; rw [H.1] at this
     cases this
 | succ fuel ih =>
   intro aK a w Al hr hy H; refine ⟨fun h => (by rw [h] at hr; cases hr), fun j hj => ?_⟩
   by_cases Dq : j = i
   · subst Dq; exact (hy.yieldsIf (S := fun _ => True)).wpOp hi trivial ⟨fun _ => gr.refl w, H⟩
   · have h1 := H.2 j (ready_mono hj Dq); obtain ⟨GH, oj, QN, oU⟩ := mem_ready.1 hj; have Jm := (mem_ready.1 hr).1; have Jj : ∀ e ∈ oj.after, Region.binds md e = true → e.on ≠ i := fun e he hb heq => by
       have h1 := oU e he hb; rw [heq] at h1; rcases Nat.lt_or_ge i aK.size with h' | h'
       · simp [h'] at Jm h1; rw [Jm] at h1; cases h1
       · simp [Array.getElem?_eq_none h'] at h1
     have h2 := wpOp_put QN (Al j oj QN Dq GH Jj) (fun cs b => EX i oi cs b hi) (fun cs b => EX j oj cs b QN) hQ hy h1; have GI : ∀ k ok, ops[k]? = some ok → k ≠ i → (aK.setIfInBounds j true).getD k true = false →
         (∀ e ∈ ok.after, Region.binds md e = true → e.on ≠ i) → oi.apart ops ok = true := fun k ok hk YV D6 Qw => by
       refine Al k ok hk YV ?_ Qw
       by_cases F0 : j = k
       · subst F0; exact GH
       · rw [getD_set_ne true F0] at D6; exact D6
     refine wpOp_mono (fun a' w' h3 => ⟨h3.2.1, ih (aK.setIfInBounds j true) a' w' GI (ready_mono hr (Ne.symm Dq)) h3.1 ?_⟩) h2; rw [Array.setIfInBounds_comm _ _ Dq]; exact h3.2.2
end
end Go.TM
namespace Go.TM
open Go Go.RowKit
def vL (i : Nat) : List Nat → Bool
 | [] => false
 | x :: l => Nat.beq x i || vL i l
def O8 (ops : List Oper) (ls : List Nat) (j : Nat) : Bool :=
 match nth ops j with
 | some o => !vL j ls && o.after.toList.all fun e => !Region.binds .any e || vL e.on ls
 | none => false
def Iq (ops : Array Oper) (EY : List Oper) (n : Nat) (ls : List Nat) (i : Nat) : Bool :=
 match nth EY i with
 | some oi => (List.range n).all fun j => Nat.beq j i || (vL j ls || match nth EY j with
   | some oj => (oj.after.toList.any fun e => Region.binds .any e && Nat.beq e.on i) || oi.apart ops oj
   | none => true)
 | none => false
def Ds (EY : List Oper) (n : Nat) (ls : List Nat) (i : Nat) : Bool := (List.range n).all fun j => Nat.beq j i || !O8 EY ls j
def Pl.bM : Pl → List Nat
 | .nil => []
 | .op i _ _ => [i]
 | .alt p q => p.bM ++ q.bM
def Li (EY : List Oper) (n : Nat) (ls hs : List Nat) : Bool := (List.range n).all fun j => !O8 EY ls j || vL j hs
def jj (ops : Array Oper) (EY : List Oper) (n : Nat) (ds : List Nat) : Bool → List Nat → Pl → Bool
 | al, ls, .nil => !al && (List.range n).all fun j => !O8 EY ls j
 | al, ls, .op i kd r => O8 EY ls i && ((match kd with
     | .any => !al && Iq ops EY n ls i
     | .take => !al && (Iq ops EY n ls i && ds.all fun d => vL d ls || qv .any ops i n d)
     | .one => al || Ds EY n ls i
     | .last => (al || Ds EY n ls i) && vL i ds) && jj ops EY n ds false (i :: ls) r)
 | al, ls, .alt p q => (al || Li EY n ls (p.bM ++ q.bM)) && (jj ops EY n ds true ls p && jj ops EY n ds true ls q)
def CE : Pl → List Nat
 | .nil => []
 | .op i .last l => i :: CE l
 | .op _ _ l => CE l
 | .alt p q => CE p ++ CE q
def Pl.depth : Pl → Nat
 | .nil => 0
 | .op _ _ l => l.depth + 1
 | .alt p q => Nat.max p.depth q.depth
def AN (ops : Array Oper) (l : Pl) : Bool :=
 Region.noSelect ops && (Nat.ble l.depth ops.size && jj ops ops.toList ops.size (CE l) false [] l)
structure Nq (n : Nat) (ls : List Nat) (aK : Array Bool) : Prop where
 size : aK.size = n
 gf : ∀ j, aK.getD j false = vL j ls
 gt : ∀ j, aK.getD j true = (vL j ls || decide (n ≤ j))
theorem Nq.push {n : Nat} {ls : List Nat} {aK : Array Bool} (h : Nq n ls aK) {i : Nat} (hi : i < n) : Nq n (i :: ls) (aK.setIfInBounds i true) where
 size := by simp [h.size]
 gf := fun j => by
   unfold vL
   by_cases e : i = j
   · subst e; have : Nat.beq i i = true := Nat.beq_refl i; rw [this]; simp [h.size, hi]
   · rw [getD_set_ne false e, h.gf j]; have : Nat.beq i j = false := by
       cases hq : Nat.beq i j
       · rfl
       · exact absurd (Nat.eq_of_beq_eq_true hq) e
     simp [this]
 gt := fun j => by
   unfold vL
   by_cases e : i = j
   · subst e; simp [h.size, hi]
   · rw [getD_set_ne true e, h.gt j]; have : Nat.beq i j = false := by
       cases hq : Nat.beq i j
       · rfl
       · exact absurd (Nat.eq_of_beq_eq_true hq) e
     simp [this]
theorem Nq.none (n : Nat) : Nq n [] (Array.replicate n false) where
 size := by simp
 gf := fun j => by
   simp only [Array.getD_eq_getD_getElem?, Array.getElem?_replicate, vL]
   split <;> rfl
 gt := fun j => by
   simp only [Array.getD_eq_getD_getElem?, Array.getElem?_replicate, vL]
   split
   · rename_i h; simp; omega
   · rename_i h; simp; omega
theorem uL {ops : Array Oper} {ls : List Nat} {aK : Array Bool} (h : Nq ops.size ls aK) (j : Nat) : O8 ops.toList ls j = true ↔ j ∈ Region.ready .any ops aK := by
 rw [mem_ready]; unfold O8; rw [fm, Array.getElem?_toList, h.gt j]
 cases ho : ops[j]? with
 | none => simp
 | some o =>
   have bP : j < ops.size := (Array.getElem?_eq_some_iff.1 ho).1; have hn : decide (ops.size ≤ j) = false := by simp; omega
   simp only [hn, Bool.or_false, Bool.and_eq_true, Bool.not_eq_true', List.all_eq_true, Array.mem_toList_iff, Bool.or_eq_true, Option.some.injEq, exists_eq_left', h.gf]
   constructor
   · rintro ⟨h0, h1⟩
     exact ⟨h0, fun e he hb => (h1 e he).resolve_left (by simp [hb])⟩
   · rintro ⟨h0, h1⟩
     refine ⟨h0, fun e he => ?_⟩
     cases hb : Region.binds .any e
     · exact .inl rfl
     · exact .inr (h1 e he hb)
theorem Jn {i j : Nat} (h : i ≠ j) : Nat.beq i j = false := by
 cases hq : Nat.beq i j
 · rfl
 · exact absurd (Nat.eq_of_beq_eq_true hq) h
theorem AO {ops : Array Oper} {ls : List Nat} {aK : Array Bool} (h : Nq ops.size ls aK) {i : Nat} {oi : Oper} (hi : ops[i]? = some oi) (hf : Iq ops ops.toList ops.size ls i = true) :
   ∀ j oj, ops[j]? = some oj → j ≠ i → aK.getD j true = false → (∀ e ∈ oj.after, Region.binds .any e = true → e.on ≠ i) → oi.apart ops oj = true := by
 intro j oj hj Dq D6 Qw; unfold Iq at hf; rw [fm, Array.getElem?_toList, hi] at hf; have bP : j < ops.size := (Array.getElem?_eq_some_iff.1 hj).1; have h1 := List.all_eq_true.1 hf j (List.mem_range.2 bP); rw [fm, Array.getElem?_toList, hj, Jn Dq, Bool.false_or] at h1; rw [h.gt j, Bool.or_eq_false_iff] at D6; rw [D6.1, Bool.false_or, Bool.or_eq_true] at h1; rcases h1 with h1 | h1
 · obtain ⟨e, he, h2⟩ := List.any_eq_true.1 h1; rw [Bool.and_eq_true] at h2; exact absurd (Nat.eq_of_beq_eq_true h2.2) (Qw e (Array.mem_toList_iff.1 he) h2.1)
 · exact h1
theorem EZ {ops : Array Oper} {ls : List Nat} {aK : Array Bool} (h : Nq ops.size ls aK) {i : Nat} (hf : Ds ops.toList ops.size ls i = true) : ∀ j ∈ Region.ready .any ops aK, j = i := by
 intro j hj; have bP : j < ops.size := by
   obtain ⟨_, o, ho, _⟩ := mem_ready.1 hj; exact (Array.getElem?_eq_some_iff.1 ho).1
 have h1 := List.all_eq_true.1 hf j (List.mem_range.2 bP); rw [(uL h j).2 hj, Bool.not_true, Bool.or_false] at h1; exact Nat.eq_of_beq_eq_true h1
theorem xr {P : Program} {T : jb} {S : hU} {w0 : World} {mu : Mu} {c : Cz} {st aP : St} {a : Act} {w : World} {ops : Array Oper} {o : Oper} {C : World → Prop} (h : Rel w0 mu c st a w)
   (hd : ∀ k, o.dst = some k → k < a.tmps.size) (hv : (th T S ops.toList st o).val = some aP)
   (base : (FX T S st o).val = some aP → ∃ v, (∀ w' : World, C w' → (execOp a.eval o).run P w' = .ok (.value v) w') ∧ Rel w0 mu c aP (a.put o.dst v) w) :
   ∃ v, YieldsIf P ops C o v a ∧ Rel w0 mu c aP (a.put o.dst v) w := by
 unfold th at hv; unfold YieldsIf Region.wanted
 cases hg : o.guard with
 | none =>
   simp only [hg] at hv ⊢; obtain ⟨v, h1, h2⟩ := base hv; exact ⟨v, .inl ⟨trivial, h1⟩, h2⟩
 | some p =>
   obtain ⟨j, want⟩ := p; simp only [hg] at hv ⊢
   cases hj : (nth ops.toList j).bind (·.dst) with
   | none => simp [hj, N.val] at hv
   | some d =>
     simp only [hj] at hv
     split at hv
     · rename_i b KK; obtain ⟨h1, h2⟩ := uE h KK; rw [An (ops := ops) hj h1 h2]; have yes : (FX T S (TM.aT st (some d) (.one (.bool b))) o).val = some aP → ∃ v, (∀ w' : World, C w' → (execOp a.eval o).run P w' = .ok (.value v) w') ∧ Rel w0 mu c aP (a.put o.dst v) w := fun e => base (by rwa [uF st d KK] at e)
       have no : (N.done (TM.aT (TM.aT st (some d) (.one (.bool b))) o.dst (.kV []))).val = some aP → Rel w0 mu c aP (a.put o.dst undef) w := by
         intro e; simp only [N.val, Option.some.injEq] at e; subst e; rw [uF st d KK]; exact h.aT (uG _ _ _) hd
       rcases tw hv with ⟨hb, wM⟩ | ⟨hb, wM⟩
       · subst hb
         cases want
         · exact ⟨undef, .inr ⟨rfl, rfl⟩, no wM⟩
         · obtain ⟨v, h3, h4⟩ := yes wM; exact ⟨v, .inl ⟨rfl, h3⟩, h4⟩
       · subst hb
         cases want
         · obtain ⟨v, h3, h4⟩ := yes wM; exact ⟨v, .inl ⟨rfl, h3⟩, h4⟩
         · exact ⟨undef, .inr ⟨rfl, rfl⟩, no wM⟩
     · rename_i KK; simp only [N.val, Option.some.injEq] at hv; subst hv; rw [vn (ops := ops) hj (Ao h KK)]; exact ⟨undef, .inr ⟨by cases want <;> rfl, rfl⟩, h.aT (uG _ _ _) hd⟩
     · simp [N.val] at hv
theorem NY {P : Program} {T : jb} (hT : fh P T) {S : hU} {w0 : World} {mu : Mu} {c : Cz} {st : St} {a : Act} {w : World} (h : Rel w0 mu c st a w) {o : Oper} (hk : kindOk S st o .take = true)
   {aP : St} (hv : (FX T S st o).val = some aP) (hd : ∀ k, o.dst = some k → k < a.tmps.size) : ∃ v, (∀ w' : World, gr w w' → (execOp a.eval o).run P w' = .ok (.value v) w') ∧ Rel w0 mu c aP (a.put o.dst v) w := by
 unfold kindOk at hk; unfold FX at hv
 cases ho : o.op with
 | load t x =>
   simp only [ho] at hv; obtain ⟨v, h1, h2⟩ := Eb hT h (a8 h x) hv hd; exact ⟨v, fun w' hw => by simp only [execOp, ho]; exact oS (h1 w' hw), h2⟩
 | _ => simp [ho] at hk
theorem xt {i : Nat} : (l : List Nat) → vL i l = true → i ∈ l
 | [], h => by cases h
 | x :: l, h => by
   unfold vL at h; rw [Bool.or_eq_true] at h; rcases h with h | h
   · rw [Nat.eq_of_beq_eq_true h]; exact List.mem_cons_self
   · exact List.mem_cons_of_mem _ (xt l h)
theorem tQ {R : Type} {P : Program} {T : jb} (hT : fh P T) (hE : uX P T) {S : hU} {w0 : World} {mu : Mu} {n : Nat} (BQ : p9 P T S w0 mu n) {ops : Array Oper} {ds : List Nat} {Q : Exit → Act → World → Prop} (hQ : ∀ c a w, ¬ Q (.panic c) a w)
   {k : St → Option R} {r : R} (hk : Next w0 mu n r k (Q .normal)) (QO : Region.noSelect ops = true) (sZ : vG n ops.toList = true) :
   (l : Pl) → (ls : List Nat) → (aK : Array Bool) → (fuel : Nat) → {c : Cz} → {st : St} → {a : Act} → {w : World} → Nq ops.size ls aK → qw .any ops aK → l.depth ≤ fuel →
     Rel w0 mu c st a w → a.tmps.size = n → mY T S ops.toList l st k = some r →
     (jj ops ops.toList ops.size ds false ls l = true → l7 P .any ops Q ds fuel aK a w) ∧
     (jj ops ops.toList ops.size ds true ls l = true → ∃ E0, fuel = E0 + 1 ∧ ∀ i ∈ l.bM, i ∈ Region.ready .any ops aK ∧ wpOp P ops Q i (fun a' w' => (i ∉ ds → gr w w') ∧ l7 P .any ops Q ds E0 (aK.setIfInBounds i true) a' w') a w)
 | .nil, ls, aK, fuel, c, st, a, w, hl, _, _, h, hn, hv => by
   refine ⟨fun hb => ?_, fun hb => by simp [jj] at hb⟩; unfold jj at hb; rw [Bool.and_eq_true] at hb; have hr : Region.ready .any ops aK = [] := by
     refine List.eq_nil_iff_forall_not_mem.2 fun j hj => ?_
     obtain ⟨_, o, ho, _⟩ := mem_ready.1 hj; have bP : j < ops.size := (Array.getElem?_eq_some_iff.1 ho).1; have h1 := List.all_eq_true.1 hb.2 j (List.mem_range.2 bP); rw [(uL hl j).2 hj] at h1
     cases h1
   have hq := hk h hn hv
   cases fuel with
   | zero => exact ⟨hr, hq⟩
   | succ fuel => exact ⟨fun _ => hq, fun i hi => by rw [hr] at hi; cases hi⟩
 | .op i kd l, ls, aK, 0, c, st, a, w, hl, _, hf, h, hn, hv => absurd hf (by simp [Pl.depth])
 | .op i kd l, ls, aK, fuel + 1, c, st, a, w, hl, hs, hf, h, hn, hv => by
   have hf : l.depth ≤ fuel := Nat.le_of_succ_le_succ hf; have first : ∀ al, jj ops ops.toList ops.size ds al ls (.op i kd l) = true → O8 ops.toList ls i = true ∧ jj ops ops.toList ops.size ds false (i :: ls) l = true := by
     intro al hb; unfold jj at hb; rw [Bool.and_eq_true, Bool.and_eq_true] at hb; exact ⟨hb.1, hb.2.2⟩
   have step : O8 ops.toList ls i = true → jj ops ops.toList ops.size ds false (i :: ls) l = true → (kd = .one ∨ i ∈ ds) → wpOp P ops Q i (fun a' w' => (i ∉ ds → gr w w') ∧ l7 P .any ops Q ds fuel (aK.setIfInBounds i true) a' w') a w := by
     intro QP ez YW; have O9 := (uL hl i).1 QP; obtain ⟨_, o, Ip, _⟩ := mem_ready.1 O9; have bP : i < ops.size := (Array.getElem?_eq_some_iff.1 Ip).1; unfold mY at hv; rw [fm, Array.getElem?_toList, Ip] at hv; obtain ⟨Nr, hv⟩ := aD hv; rw [N.fold_eq] at hv; obtain ⟨aP, h1, h2⟩ := Option.bind_eq_some_iff.1 hv; have GB : ∀ k, o.dst = some k → k < a.tmps.size := fun k hk => by rw [hn]; exact x4 sZ (by rw [Array.mem_toList_iff]; exact Array.mem_of_getElem? Ip) k hk
     have next : ∀ {c' : Cz} {a' : Act} {w' : World}, Rel w0 mu c' aP a' w' → a'.tmps.size = n → l7 P .any ops Q ds fuel (aK.setIfInBounds i true) a' w' := fun hr IV =>
       (tQ hT hE BQ hQ hk QO sZ l (i :: ls) _ fuel (hl.push bP) (hs.set O9) hf hr IV h2).1 ez
     have hko : kd = .one → kindOk S st o .one = true := fun e => by rw [e] at Nr; exact Nr
     unfold wpOp; rw [Ip]; rcases Eu BQ h hn (fun k hk => by rw [← hn]; exact GB k hk) h1 with ⟨hw, qn⟩ | ⟨hw, tJ⟩
     · simp only [hw, if_true]; refine .inl (Oper.wp_mono (fun a' w' ⟨⟨c', hr, jv⟩, NM⟩ => ⟨fun Gj => ?_, next hr (jv.trans hn)⟩) (qn Q)); rcases YW with e | e
       · exact NM (hko e)
       · exact absurd e Gj
     · simp only [hw, Bool.false_eq_true, if_false]; exact ⟨fun _ => gr.refl w, next tJ ((oR _ _ _).trans hn)⟩
   refine ⟨fun hb => ?_, fun hb => ⟨fuel, rfl, fun j hj => ?_⟩⟩
   · obtain ⟨QP, ez⟩ := first _ hb; have O9 := (uL hl i).1 QP; unfold jj at hb; rw [Bool.and_eq_true, Bool.and_eq_true] at hb; obtain ⟨_, Ir, _⟩ := hb; have alone : Ds ops.toList ops.size ls i = true → (kd = .one ∨ i ∈ ds) → l7 P .any ops Q ds (fuel + 1) aK a w := by
       intro hal YW; refine ⟨fun e => absurd O9 (by rw [e]; exact List.not_mem_nil), fun j hj => ?_⟩; have := EZ hl hal j hj; subst this; exact step QP ez YW
     obtain ⟨_, o, Ip, _⟩ := mem_ready.1 O9; have bP : i < ops.size := (Array.getElem?_eq_some_iff.1 Ip).1; unfold mY at hv; rw [fm, Array.getElem?_toList, Ip] at hv; obtain ⟨Nr, hv⟩ := aD hv; rw [N.fold_eq] at hv; obtain ⟨aP, h1, h2⟩ := Option.bind_eq_some_iff.1 hv; have GB : ∀ k, o.dst = some k → k < a.tmps.size := fun k hk => by rw [hn]; exact x4 sZ (by rw [Array.mem_toList_iff]; exact Array.mem_of_getElem? Ip) k hk
     have next : ∀ {c' : Cz} {a' : Act} {w' : World}, Rel w0 mu c' aP a' w' → a'.tmps.size = n → l7 P .any ops Q ds fuel (aK.setIfInBounds i true) a' w' := fun hr IV =>
       (tQ hT hE BQ hQ hk QO sZ l (i :: ls) _ fuel (hl.push bP) (hs.set O9) hf hr IV h2).1 ez
     have EX := Region.noSelect_spec QO
     cases kd with
     | one => exact alone (by simpa using Ir) (.inl rfl)
     | last =>
       simp only [Bool.false_or, Bool.and_eq_true] at Ir; exact alone Ir.1 (.inr (xt ds Ir.2))
     | any =>
       simp only [Bool.not_false, Bool.true_and] at Ir; obtain ⟨v, hy, tJ⟩ := xr (P := P) (ops := ops) (C := fun _ => True) h GB h1 (fun e => by
         obtain ⟨v, g1, g2⟩ := H9 hT hE h Nr e GB; exact ⟨v, fun w' _ => g1 w', g2⟩)
       refine GJ Ip EX (fun c a w hq => absurd hq (hQ _ _ _)) fuel aK a w (AO hl Ip Ir) O9 ?_ (next tJ ((oR _ _ _).trans hn)); rcases hy with ⟨g1, g2⟩ | g
       · exact .inl ⟨g1, fun w' => g2 w' trivial⟩
       · exact .inr g
     | take =>
       simp only [Bool.not_false, Bool.true_and, Bool.and_eq_true] at Ir; obtain ⟨v, hy, tJ⟩ := xr (P := P) (ops := ops) (C := gr w) h GB h1 (fun e => NY hT h Nr e GB); refine Dp Ip EX (fun c a w hq => absurd hq (hQ _ _ _)) ops.size fuel aK a w (AO hl Ip Ir.1) hs (fun d hm D6 => ?_) O9 hy (gr.refl w) (next tJ ((oR _ _ _).trans hn)); have h3 := List.all_eq_true.1 Ir.2 d hm; rw [hl.gt d, Bool.or_eq_false_iff] at D6; rw [D6.1, Bool.false_or] at h3; exact h3
   · have hj : j = i := by simpa [Pl.bM] using hj
     subst hj; obtain ⟨QP, ez⟩ := first _ hb; refine ⟨(uL hl j).1 QP, step QP ez ?_⟩; unfold jj at hb; rw [Bool.and_eq_true, Bool.and_eq_true] at hb; obtain ⟨_, Ir, _⟩ := hb
     cases kd with
     | one => exact .inl rfl
     | last =>
       simp only [Bool.true_or, Bool.true_and] at Ir; exact .inr (xt ds Ir)
     | any => simp at Ir
     | take => simp at Ir
 | .alt p q, ls, aK, fuel, c, st, a, w, hl, hs, hf, h, hn, hv => by
   have hv : both (mY T S ops.toList p st k) (mY T S ops.toList q st k) = some r := hv; obtain ⟨wM, Gx⟩ := IK hv; have hf : Nat.max p.depth q.depth ≤ fuel := hf; have hp := (tQ (ds := ds) hT hE BQ hQ hk QO sZ p ls aK fuel hl hs (Nat.le_trans (Nat.le_max_left _ _) hf) h hn wM).2; have hq := (tQ (ds := ds) hT hE BQ hQ hk QO sZ q ls aK fuel hl hs (Nat.le_trans (Nat.le_max_right _ _) hf) h hn Gx).2; have bM : jj ops ops.toList ops.size ds true ls p = true → jj ops ops.toList ops.size ds true ls q = true → ∃ E0, fuel = E0 + 1 ∧ ∀ i ∈ p.bM ++ q.bM, i ∈ Region.ready .any ops aK ∧ wpOp P ops Q i (fun a' w' => (i ∉ ds → gr w w') ∧ l7 P .any ops Q ds E0 (aK.setIfInBounds i true) a' w') a w := by
     intro h1 h2; obtain ⟨f1, e1, g1⟩ := hp h1; obtain ⟨f2, e2, g2⟩ := hq h2; have : f1 = f2 := by omega
     subst this; exact ⟨f1, e1, fun i hi => (List.mem_append.1 hi).elim (g1 i) (g2 i)⟩
   have parts : ∀ al, jj ops ops.toList ops.size ds al ls (.alt p q) = true → (al || Li ops.toList ops.size ls (p.bM ++ q.bM)) = true ∧ jj ops ops.toList ops.size ds true ls p = true ∧ jj ops ops.toList ops.size ds true ls q = true := by
     intro al hb; unfold jj at hb; rw [Bool.and_eq_true, Bool.and_eq_true] at hb; exact hb
   refine ⟨fun hb => ?_, fun hb => ?_⟩
   · obtain ⟨hc, h1, h2⟩ := parts _ hb; obtain ⟨f, rfl, g⟩ := bM h1 h2; have YX : ∀ j ∈ Region.ready .any ops aK, j ∈ p.bM ++ q.bM := by
       intro j hj; have bP : j < ops.size := by
         obtain ⟨_, o, ho, _⟩ := mem_ready.1 hj; exact (Array.getElem?_eq_some_iff.1 ho).1
       rw [Bool.false_or] at hc; have h1 := List.all_eq_true.1 hc j (List.mem_range.2 bP); rw [(uL hl j).2 hj, Bool.not_true, Bool.false_or] at h1; exact xt _ h1
     refine ⟨fun e => ?_, fun j hj => (g j (YX j hj)).2⟩; have fk : ∃ i, i ∈ p.bM ++ q.bM := by
       have key : ∀ (l : Pl), jj ops ops.toList ops.size ds true ls l = true → ∃ i, i ∈ l.bM := by
         intro l
         induction l with
         | nil => intro h; simp [jj] at h
         | op i _ _ _ => intro _; exact ⟨i, by simp [Pl.bM]⟩
         | alt p q ih _ =>
           intro h; unfold jj at h; rw [Bool.and_eq_true, Bool.and_eq_true] at h; obtain ⟨i, hi⟩ := ih h.2.1; exact ⟨i, List.mem_append_left _ hi⟩
       obtain ⟨i, hi⟩ := key p h1; exact ⟨i, List.mem_append_left _ hi⟩
     obtain ⟨i, hi⟩ := fk; have := (g i hi).1; rw [e] at this
     cases this
   · obtain ⟨_, h1, h2⟩ := parts _ hb; exact bM h1 h2
theorem qQ {R : Type} {P : Program} {T : jb} (hT : fh P T) (hE : uX P T) (hm : P.follows .mixedOrders = true) {S : hU} {D : jd} {w0 : World} {mu : Mu} {n : Nat} (BQ : p9 P T S w0 mu n) :
   oB R P T S D w0 mu n (fun id ops => AN ops (D id) = true) := by
 intro id ops Q k r ff sZ hk c st a w h hn hv; unfold AN at ff; rw [Bool.and_eq_true, Bool.and_eq_true] at ff; obtain ⟨QO, hlen, hb⟩ := ff
 let Q' : Exit → Act → World → Prop := fun e a w => e = .normal ∧ Q .normal a w
 have key : (Code.region id ops true).wp P Q' a w := by
   refine wp_region_any hm (vq _ _ _ _ ((tQ hT hE BQ (ds := CE (D id)) (Q := Q') (fun c a w hq => by cases hq.1) (fun {c st a w} g1 g2 g3 => ⟨rfl, hk g1 g2 g3⟩) QO sZ (D id) [] _ ops.size (Nq.none _) (qw.none _ _ _) (Nat.le_of_ble_eq_true hlen) h.drew hn hv).1 hb))
 exact Code.wp_mono (fun e a w hq => by obtain ⟨rfl, hq⟩ := hq; exact hq) key
end Go.TM
namespace Go.TM
open Go Go.RowKit
abbrev NZ : RT → Type → Type
 | .nil, R => R
 | .cons t r, R => den t → NZ r R
abbrev pM {R : Type} : (r : RT) → NZ r R → ak r → R
 | .nil, f, _ => f
 | .cons _ r, f, x => pM r (f x.1) x.2
def lI : jd := fun _ => .nil
def SS {R : Type} : kY R := fun _ _ _ _ => none
def Lj (f : Func) : Code := match f.body with | some c => c | none => .skip
def nn : Nat → List (Option AP)
 | 0 => []
 | n + 1 => none :: nn n
structure Rec where
 size : Nat
 agg : Bool
 bL : List (Nat × Nat)
 row : Option RT
 elem : Option (RT × Nat)
 kind : Option Ty
 ju : List Nat
 eq : Bool
 dp : Bool := false
 cap : Bool := false
inductive Tr where
 | leaf
 | node (l : Tr) (k : Nat) (v : Rec) (r : Tr)
def Tr.flat : Tr → Tr
 | .leaf => .leaf
 | .node l k v r => .node l.flat k { v with dp := false } r.flat
def Tr.uU (l : List Nat) : Tr → Tr
 | .leaf => .leaf
 | .node a k v b => .node (a.uU l) k { v with cap := l.any (Nat.beq k) } (b.uU l)
def Tr.find : Tr → Nat → Option Rec
 | .leaf, _ => none
 | .node l k v r, t => bif Nat.beq t k then some v else bif Nat.blt t k then l.find t else r.find t
def Tr.all (p : Nat → Rec → Bool) : Tr → Bool
 | .leaf => true
 | .node l k v r => l.all p && (p k v && r.all p)
theorem Tr.xu {p : Nat → Rec → Bool} : (tr : Tr) → tr.all p = true → ∀ {t v}, tr.find t = some v → p t v = true
 | .leaf, _, _, _, h => by cases h
 | .node l k v r, h, t, u, hf => by
   unfold Tr.all at h; rw [Bool.and_eq_true, Bool.and_eq_true] at h; unfold Tr.find at hf
   cases hb : Nat.beq t k with
   | true =>
     rw [hb] at hf; injection hf with hf; subst hf; rw [Nat.eq_of_beq_eq_true hb]; exact h.2.1
   | false =>
     rw [hb] at hf
     cases hl : Nat.blt t k with
     | true => rw [hl] at hf; exact Tr.xu l h.1 hf
     | false => rw [hl] at hf; exact Tr.xu r h.2.2 hf
def jI (tr : Tr) : jb where
 cells t := (tr.find t).map (·.size)
 agg t := match tr.find t with | some r => r.agg | none => false
 off t f := match tr.find t with | some r => (nth r.bL f).map (·.1) | none => none
 Tz t f := match tr.find t with | some r => (nth r.bL f).map (·.2) | none => none
 row t := match tr.find t with | some r => r.row | none => none
 elem t := match tr.find t with | some r => r.elem | none => none
 kV _ := none
 kind t := match tr.find t with | some r => r.kind | none => none
 one t f := match tr.find t with | some r => r.ju.any (Nat.beq f) | none => false
 eq t := match tr.find t with | some r => r.eq | none => false
 dp t := match tr.find t with | some r => r.dp | none => false
 cap t := match tr.find t with | some r => r.cap | none => false
def kI : RT → List Value → Bool
 | .nil, [] => true
 | .cons (.int k) r, .int l n :: vs => decide (k = l) && decide (n = 0) && kI r vs
 | .cons .bool r, .bool b :: vs => !b && kI r vs
 | .cons .str r, .string s :: vs => (match s.data.toList with | [] => true | _ => false) && kI r vs
 | .cons (.sl _) r, .slice none 0 0 :: vs => kI r vs
 | _, _ => false
theorem qR : (r : RT) → (vs : List Value) → kI r vs = true → gI r vs
 | .nil, [], _ => rfl
 | .nil, _ :: _, h => by simp [kI] at h
 | .cons t r, [], h => by cases t <;> simp [kI] at h
 | .cons t r, v :: vs, h => by
   cases t with
   | int k =>
     cases v <;> try (simp [kI] at h; done)
     rename_i l n; simp only [kI, Bool.and_eq_true, decide_eq_true_eq] at h; obtain ⟨⟨rfl, rfl⟩, h⟩ := h; exact ⟨vs, rfl, qR r vs h⟩
   | bool =>
     cases v <;> try (simp [kI] at h; done)
     rename_i b; simp only [kI, Bool.and_eq_true, Bool.not_eq_true'] at h; obtain ⟨rfl, h⟩ := h; exact ⟨vs, rfl, qR r vs h⟩
   | str =>
     cases v <;> try (simp [kI] at h; done)
     rename_i s; simp only [kI, Bool.and_eq_true] at h; obtain ⟨h1, h⟩ := h; refine ⟨vs, ?_, qR r vs h⟩; obtain ⟨d⟩ := s; obtain ⟨d⟩ := d
     cases d with
     | nil => rfl
     | cons _ _ => simp at h1
   | sl q =>
     cases v <;> try (simp [kI] at h; done)
     rename_i a n m
     cases a with
     | some _ => simp [kI] at h
     | none => cases n with
       | succ _ => simp [kI] at h
       | zero => cases m with
         | succ _ => simp [kI] at h
         | zero =>
           have h : kI r vs = true := h; exact ⟨vs, rfl, qR r vs h⟩
def qb {α : Type} (o : Option α) (p : α → Bool) : Bool := match o with | some x => p x | none => false
theorem eJ {α : Type} {o : Option α} {p : α → Bool} (h : qb o p = true) : ∃ x, o = some x ∧ p x = true := by
 cases o with
 | none => cases h
 | some x => exact ⟨x, rfl, h⟩
def rJ (P : Program) : List Field → List (Nat × Nat) → Bool
 | [], [] => true
 | f :: fs, (o, s) :: ps => Nat.beq f.offset o && (qb (P.info? f.type) (fun i => Nat.beq i.size s) && (Nat.blt 0 s && rJ P fs ps))
 | _, _ => false
theorem vM {P : Program} : (fs : List Field) → (ps : List (Nat × Nat)) → rJ P fs ps = true →
   fs.mapM (fun f => (P.info? f.type).map fun i => (f.offset, i.size)) = some ps ∧ ∀ (k : Nat) p, ps[k]? = some p → ∃ Cf n, fs[k]? = some Cf ∧ Cf.offset = p.1 ∧ (P.info? Cf.type).map (·.size) = some (n + 1)
 | [], [], _ => ⟨rfl, fun k p h => by simp at h⟩
 | [], _ :: _, h => by simp [rJ] at h
 | _ :: _, [], h => by simp [rJ] at h
 | f :: fs, (o, s) :: ps, h => by
   unfold rJ at h; rw [Bool.and_eq_true, Bool.and_eq_true, Bool.and_eq_true] at h; obtain ⟨h1, h2, h3, h4⟩ := h; obtain ⟨i, hi, Ut⟩ := eJ h2; have h1 := Nat.eq_of_beq_eq_true h1; have Ut := Nat.eq_of_beq_eq_true Ut; obtain ⟨g1, g2⟩ := vM fs ps h4; refine ⟨by simp [List.mapM_cons, hi, g1, h1, Ut], fun k p hp => ?_⟩
   cases k with
   | zero =>
     simp at hp; subst hp; have h3 : 0 < s := Nat.le_of_ble_eq_true h3; exact ⟨f, s - 1, rfl, h1, by rw [hi]; simp [Ut]; omega⟩
   | succ k => exact g2 k p (by simpa using hp)
def E1 (P : Program) (t : Nat) : Ty → Bool
 | .int k => qb (P.underlying t) fun | .int l => decide (k = l) | _ => false
 | .bool => qb (P.underlying t) fun | .bool => true | _ => false
 | .str => qb (P.underlying t) fun | .string => true | _ => false
 | .sl _ => false
def Dt (P : Program) (t : Nat) (r : Rec) : Bool :=
 qb (P.info? t) (fun i => Nat.beq i.size r.size && (match r.row with | some q => qb i.zero (fun z => kI q z.cells.toList) | none => true)) &&
 (qb (P.underlying t) (fun d => (d.isRow == r.agg) && (bif r.agg then true else Nat.beq r.size 1) && (match d with | .struct fs => bif r.agg then rJ P fs.toList r.bL else Nat.beq r.bL.length 0 | _ => !r.agg && Nat.beq r.bL.length 0)
     && (match r.elem with | some (q, b) => (match d with | .slice e => qb (P.info? e) (fun i => Nat.beq i.size q.width && (Nat.blt 0 q.width && (Nat.beq i.bytes b && (Nat.blt 0 b && qb i.zero (fun z => kI q z.cells.toList))))) | _ => false) | none => true)) &&
 ((match r.kind with | some k => E1 P t k | none => true) && (match r.elem with | some (.cons (.int .u8) .nil, _) => qb (P.underlying t) (fun d => match d with | .slice e => E1 P e (.int .u8) | _ => false) | _ => true)))
def Pb (P : Program) (t : Nat) (l : List Nat) : Bool := l.all fun f => qb (P.underlying t) fun d => match d with | .struct fs => qb fs[f]? (fun Cf => qb (P.underlying Cf.type) fun e => !e.isRow) | _ => false
def vr (P : Program) (t : Nat) (r : Rec) : Bool := Dt P t r && Pb P t r.ju
theorem iP {P : Program} {tr : Tr} (h : tr.all (vr P) = true) : fh P (jI tr) := by
 have Uu : ∀ {t r}, tr.find t = some r → vr P t r = true := fun hf => Tr.xu tr h hf
 have get : ∀ {t r}, tr.find t = some r → Dt P t r = true := fun hf => (Bool.and_eq_true _ _ ▸ Uu hf).1
 have base : ∀ {t r}, tr.find t = some r → (∃ i, P.info? t = some i ∧ i.size = r.size ∧ ∀ q, r.row = some q → ∃ z, i.zero = some z ∧ gI q z.cells.toList) ∧
     (∃ d, P.underlying t = some d ∧ d.isRow = r.agg ∧ (r.agg = false → r.size = 1) ∧ (r.bL ≠ [] ∨ r.agg = true → ∃ fs, d = .struct fs ∧ rJ P fs.toList r.bL = true) ∧
       ∀ q b, r.elem = some (q, b) → ∃ e i z, d = .slice e ∧ P.info? e = some i ∧ i.size = q.width ∧ 0 < q.width ∧ i.bytes = b ∧ 0 < b ∧ i.zero = some z ∧ gI q z.cells.toList) ∧
     ∀ k, r.kind = some k → E1 P t k = true := by
   intro t r hf; have h1 := get hf; unfold Dt at h1; rw [Bool.and_eq_true, Bool.and_eq_true, Bool.and_eq_true] at h1; obtain ⟨h1, h2, h3, _⟩ := h1; obtain ⟨i, hi, h4⟩ := eJ h1; rw [Bool.and_eq_true] at h4; obtain ⟨d, hd, h5⟩ := eJ h2; rw [Bool.and_eq_true, Bool.and_eq_true, Bool.and_eq_true] at h5; obtain ⟨⟨⟨g1, g2⟩, g3⟩, g4⟩ := h5; refine ⟨⟨i, hi, Nat.eq_of_beq_eq_true h4.1, fun q hq => ?_⟩, ⟨d, hd, by simpa using g1, fun Il => ?_, fun fk => ?_, fun q b he => ?_⟩, fun k hk => ?_⟩
   · have h6 := h4.2; rw [hq] at h6; obtain ⟨z, hz, h7⟩ := eJ h6; exact ⟨z, hz, qR q _ h7⟩
   · rw [Il] at g2; exact Nat.eq_of_beq_eq_true g2
   · cases Il : r.agg with
     | true =>
       rw [Il] at g3
       cases d with
       | struct fs => exact ⟨fs, rfl, g3⟩
       | _ => simp at g3
     | false =>
       rw [Il] at g3; rcases fk with fk | fk
       · have : Nat.beq r.bL.length 0 = true := by
           cases d with
           | struct fs => exact g3
           | _ => simpa using g3
         exact absurd (List.length_eq_zero_iff.1 (Nat.eq_of_beq_eq_true this)) fk
       · rw [Il] at fk; cases fk
   · rw [he] at g4
     cases d with
     | slice e =>
       obtain ⟨i, h6, h7⟩ := eJ g4; rw [Bool.and_eq_true, Bool.and_eq_true, Bool.and_eq_true, Bool.and_eq_true] at h7; obtain ⟨k1, k2, k3, k4, k5⟩ := h7; obtain ⟨z, hz, h8⟩ := eJ k5; exact ⟨e, i, z, rfl, h6, Nat.eq_of_beq_eq_true k1, Nat.le_of_ble_eq_true k2, Nat.eq_of_beq_eq_true k3, Nat.le_of_ble_eq_true k4, hz, qR q _ h8⟩
     | _ => cases g4
   · rw [hk] at h3; exact h3
 have look : ∀ {α : Type} {t : Nat} {g : Rec → Option α} {x : α}, (match tr.find t with | some r => g r | none => none) = some x → ∃ r, tr.find t = some r ∧ g r = some x := by
   intro α t g x hx
   cases hf : tr.find t with
   | none => rw [hf] at hx; cases hx
   | some r => rw [hf] at hx; exact ⟨r, rfl, hx⟩
 have Uv : ∀ {t : Nat} {g : Rec → Bool}, (match tr.find t with | some r => g r | none => false) = true → ∃ r, tr.find t = some r ∧ g r = true := by
   intro t g hx
   cases hf : tr.find t with
   | none => rw [hf] at hx; cases hx
   | some r => rw [hf] at hx; exact ⟨r, rfl, hx⟩
 exact {
   cells := fun t n ht => by
     obtain ⟨r, hf, rfl⟩ := Option.map_eq_some_iff.1 ht; obtain ⟨⟨i, hi, hs, _⟩, _⟩ := base hf; rw [hi]; simp [hs]
   agg := fun t n ht => by
     obtain ⟨r, hf, rfl⟩ := Option.map_eq_some_iff.1 ht; obtain ⟨_, ⟨d, hd, h1, h2, _⟩, _⟩ := base hf; have e : (jI tr).agg t = r.agg := by show (match tr.find t with | some r => r.agg | none => false) = _; rw [hf]
     exact ⟨d, hd, h1.trans e.symm, fun h => h2 (e ▸ h)⟩
   off := fun t f k ht => by
     obtain ⟨r, hf, hk⟩ := look ht; obtain ⟨p, hp, rfl⟩ := Option.map_eq_some_iff.1 hk; obtain ⟨_, ⟨d, hd, _, _, h3, _⟩, _⟩ := base hf; rw [fm] at hp; obtain ⟨fs, rfl, YY⟩ := h3 (.inl (by intro e; rw [e] at hp; simp at hp)); obtain ⟨Cf, n, g1, g2, g3⟩ := (vM fs.toList r.bL YY).2 f p hp; exact ⟨fs, Cf, n, hd, by simpa using g1, g2, g3⟩
   bld := fun t ht => by
     obtain ⟨r, hf, Il⟩ := Uv (g := fun r => r.agg) ht; obtain ⟨_, ⟨d, hd, _, _, h3, _⟩, _⟩ := base hf; obtain ⟨fs, rfl, YY⟩ := h3 (.inr Il); refine ⟨fs, r.bL, hd, (vM fs.toList r.bL YY).1, fun f o s ho hs => ?_⟩; have ho : (match tr.find t with | some r => (nth r.bL f).map (·.1) | none => none) = some o := ho; have hs : (match tr.find t with | some r => (nth r.bL f).map (·.2) | none => none) = some s := hs; rw [hf] at ho hs; obtain ⟨p, hp, rfl⟩ := Option.map_eq_some_iff.1 ho; obtain ⟨p', jh, rfl⟩ := Option.map_eq_some_iff.1 hs; rw [hp] at jh; injection jh with e; subst e; rw [fm] at hp; exact hp
   row := fun t q ht => by
     obtain ⟨r, hf, hk⟩ := look (g := fun r => r.row) ht; obtain ⟨⟨i, hi, _, h1⟩, _⟩ := base hf; obtain ⟨z, hz, IX⟩ := h1 q hk; exact ⟨i, z, hi, hz, IX⟩
   elem := fun t q b ht => by
     obtain ⟨r, hf, hk⟩ := look (g := fun r => r.elem) ht; obtain ⟨_, ⟨d, hd, _, _, _, h4⟩, _⟩ := base hf; obtain ⟨e, i, z, rfl, h5⟩ := h4 q b hk; exact ⟨e, i, z, hd, h5⟩
   u8 := fun t e b ht hu => by
     obtain ⟨r, hf, hk⟩ := look (g := fun r => r.elem) ht; have h1 := get hf; unfold Dt at h1; rw [Bool.and_eq_true, Bool.and_eq_true, Bool.and_eq_true] at h1; have h2 := h1.2.2.2; rw [hk] at h2; obtain ⟨d, hd, h3⟩ := eJ h2; rw [hu] at hd; injection hd with hd; subst hd; obtain ⟨d2, hd2, h4⟩ := eJ h3; rw [hd2]
     cases d2 <;> simp at h4
     rw [← h4]
   one := fun t f ht => by
     have ht : (match tr.find t with | some r => r.ju.any (Nat.beq f) | none => false) = true := ht
     cases hf : tr.find t with
     | none => rw [hf] at ht; cases ht
     | some r =>
       rw [hf] at ht; have h2 : Pb P t r.ju = true := (Bool.and_eq_true _ _ ▸ Uu hf).2; obtain ⟨g, hg, hb⟩ := List.any_eq_true.1 ht; have hb := Nat.eq_of_beq_eq_true hb; subst hb; have h3 := List.all_eq_true.1 h2 f hg; obtain ⟨d, hd, h4⟩ := eJ h3
       cases d with
       | struct fs =>
         obtain ⟨Cf, YZ, h5⟩ := eJ h4; obtain ⟨e, he, h6⟩ := eJ h5; exact ⟨fs, Cf, e, hd, YZ, he, by simpa using h6⟩
       | _ => cases h4
   kind := fun t y ht => by
     obtain ⟨r, hf, hk⟩ := look (g := fun r => r.kind) ht; have h1 := (base hf).2.2 y hk
     cases y with
     | int k =>
       obtain ⟨d, hd, h2⟩ := eJ h1; refine ⟨d, hd, ?_⟩
       cases d <;> simp at h2
       rw [h2]; rfl
     | bool =>
       obtain ⟨d, hd, h2⟩ := eJ h1; refine ⟨d, hd, ?_⟩
       cases d <;> simp at h2
       rfl
     | str =>
       obtain ⟨d, hd, h2⟩ := eJ h1; refine ⟨d, hd, ?_⟩
       cases d <;> simp at h2
       rfl
     | sl _ => cases h1 }
end Go.TM
namespace Go.TM
open Go Go.RowKit
def cC : Code → List (Nat × Code)
 | .seq a b => cC a ++ cC b
 | .cond _ a b => cC a ++ cC b
 | .block id (.loop b) => [(id, b)]
 | .block _ a => cC a
 | _ => []
theorem n4 {ok : Nat → Code → Prop} : (c : Code) → (∀ p ∈ cC c, ok p.1 p.2) → cR ok c := by
 intro c
 induction c with
 | seq a b QQ QR =>
   intro h; unfold cC at h; exact ⟨QQ fun p hp => h p (List.mem_append_left _ hp), QR fun p hp => h p (List.mem_append_right _ hp)⟩
 | cond x a b QQ QR =>
   intro h; unfold cC at h; exact ⟨QQ fun p hp => h p (List.mem_append_left _ hp), QR fun p hp => h p (List.mem_append_right _ hp)⟩
 | block id a ih =>
   intro h
   by_cases hb : ∃ b', a = .loop b'
   · obtain ⟨b', rfl⟩ := hb; exact h (id, b') (by unfold cC; exact List.mem_cons_self)
   · cases a with
     | loop b' => exact absurd ⟨b', rfl⟩ hb
     | _ => unfold cC at h; unfold cR; exact ih h
 | _ => intro _; unfold cR; trivial
def Is (c : Code) (i : Nat) : Code := match nth (cC c) i with | some p => p.2 | none => .skip
def gR (D : jd) : Code → Bool
 | .region id ops true => AN ops (D id)
 | .seq a b => gR D a && gR D b
 | .cond _ a b => gR D a && gR D b
 | .block _ (.loop _) => true
 | .block _ a => gR D a
 | _ => true
theorem qc {D : jd} : (c : Code) → gR D c = true → du (fun id ops => AN ops (D id) = true) c := by
 intro c
 induction c with
 | region id ops dr =>
   intro h
   cases dr with
   | true => exact h
   | false => unfold du; trivial
 | seq a b QQ QR =>
   intro h; unfold gR at h; rw [Bool.and_eq_true] at h; exact ⟨QQ h.1, QR h.2⟩
 | cond x a b QQ QR =>
   intro h; unfold gR at h; rw [Bool.and_eq_true] at h; exact ⟨QQ h.1, QR h.2⟩
 | block id a ih =>
   intro h
   by_cases hb : ∃ b', a = .loop b'
   · obtain ⟨b', rfl⟩ := hb; unfold du; trivial
   · cases a with
     | loop b' => exact absurd ⟨b', rfl⟩ hb
     | _ => unfold gR at h; unfold du; exact ih h
 | _ => intro _; unfold du; trivial
def Src.same : Src → Src → Bool
 | .tmp a, .tmp b => Nat.beq a b
 | .cell a, .cell b => Nat.beq a b
 | .ptr a, .ptr b => Nat.beq a b
 | _, _ => false
theorem Src.xv : {a b : Src} → a.same b = true → a = b
 | .tmp _, .tmp _, h => congrArg Src.tmp (Nat.eq_of_beq_eq_true h)
 | .cell _, .cell _, h => congrArg Src.cell (Nat.eq_of_beq_eq_true h)
 | .ptr _, .ptr _, h => congrArg Src.ptr (Nat.eq_of_beq_eq_true h)
 | .tmp _, .cell _, h => by cases h
 | .tmp _, .ptr _, h => by cases h
 | .cell _, .tmp _, h => by cases h
 | .cell _, .ptr _, h => by cases h
 | .ptr _, .tmp _, h => by cases h
 | .ptr _, .cell _, h => by cases h
def E2 (T : jb) : List ResultVar → List RP → Bool
 | [], [] => true
 | .tmp t :: vs, r :: rs => (r.src.same (.tmp t) || r.src.same (.ptr t)) && E2 T vs rs
 | .cell t ty :: vs, r :: rs => r.src.same (.cell t) && ((match T.cells ty with | some n => Nat.beq n r.ps.length | none => false) && ((T.agg ty == r.agg) && E2 T vs rs))
 | _, _ => false
theorem uM {T : jb} (tm : Array Value) : (vs : List ResultVar) → (rs : List RP) → E2 T vs rs = true → vK T tm vs rs
 | [], [], _ => trivial
 | [], _ :: _, h => by simp [E2] at h
 | v :: _, [], h => by cases v <;> simp [E2] at h
 | .tmp t :: vs, r :: rs, h => by
   unfold E2 at h; rw [Bool.and_eq_true, Bool.or_eq_true] at h; exact ⟨h.1.imp Src.xv Src.xv, uM tm vs rs h.2⟩
 | .cell t ty :: vs, r :: rs, h => by
   unfold E2 at h; rw [Bool.and_eq_true, Bool.and_eq_true, Bool.and_eq_true] at h; obtain ⟨h1, h2, h3, h4⟩ := h; refine ⟨⟨Src.xv h1, ?_, by simpa using h3⟩, uM tm vs rs h4⟩
   cases hc : T.cells ty with
   | none => rw [hc] at h2; cases h2
   | some n => rw [hc] at h2; rw [Nat.eq_of_beq_eq_true h2]
abbrev QS := List (Nat × (Pm × Pm × Pm × td))
def vN : QS → hU
 | [], _ => none
 | (g, s) :: l, f => bif Nat.beq f g then some s else vN l f
structure nS (P : Program) (f : FuncId) (yz : td) : Prop where
 ok : FnOk P f yz
 fn : ∃ fn, P.funcs[f]? = some fn ∧ (fn.name == "runtime.NumGoroutine") = false ∧ fn.body.isNone = false
theorem Lk {P : Program} : kr P (vN []) := fun f a b c yz h => by cases h
theorem Jo {P : Program} {g : Nat} {a b c : Pm} {yz : td} {l : QS} (hk : nS P g yz) (hl : kr P (vN l)) : kr P (vN ((g, (a, b, c, yz)) :: l)) := by
 intro f a' b' c' Y0 h; unfold vN at h
 cases hb : Nat.beq f g with
 | true =>
   rw [hb] at h; injection h with h; injection h with _ h; injection h with _ h; injection h with _ h; subst h; rw [Nat.eq_of_beq_eq_true hb]; exact ⟨hk.ok, hk.fn⟩
 | false => rw [hb] at h; exact hl f a' b' c' Y0 h
def Pc (T : jb) (D : jd) (fn : Func) (code : Code) (n : Nat) (ps : List AP) (rs : List RP) : Bool :=
 Nat.beq fn.ntmps n && (Nat.ble ps.length n && (eA n code && (E2 T fn.results.toList rs && gR D code)))
theorem N0 {P : Program} {tr : Tr} (hT : tr.all (vr P) = true) (hE : uX P (jI tr)) (hm : P.follows .mixedOrders = true) {S : hU} (hS : kr P S) {D : jd} {f : FuncId} {fn : Func} {code : Code} {n : Nat} {ps : List AP} {rs : List RP}
   {L : kY (ak (bQ rs (bc ps)))} {t : ak (ar (ps.map some)) → Option (ak (bQ rs (bc ps)))}
   (hf : P.funcs[f]? = some fn) (hb : fn.body = some code) (m7 : Pc (jI tr) D fn code n ps rs = true) (E3 : (fn.name == "runtime.NumGoroutine") = false)
   (hL : ∀ (w0 : World) (mu : Mu) (y : ak (bQ rs (bc ps))), ka ps mu → ∀ p ∈ cC code, km P w0 mu n L y p.1 p.2)
   (GF : ∀ x, dt (jI tr) S D L code (start n ps x) (xo rs ps) = t x) : nS P f (jV ps rs t) := by
 unfold Pc at m7; rw [Bool.and_eq_true, Bool.and_eq_true, Bool.and_eq_true, Bool.and_eq_true] at m7; obtain ⟨h1, h2, h3, h4, h5⟩ := m7; refine ⟨Uq (iP hT) hE hS hf hb (Nat.eq_of_beq_eq_true h1) (Nat.le_of_ble_eq_true h2) h3 (fun tm => uM tm _ _ h4) (fun w0 mu y hs => n4 code (hL w0 mu y hs))
   (fun w0 mu => qQ (iP hT) hE hm (nY (iP hT) hE hS w0 mu n)) (qc code h5) GF, fn, hf, E3, by rw [hb]; rfl⟩
def CF (D : jd) (ps : List AP) (hp e0 e1 : List (Option AP)) (n : Nat) (b : Code) : Bool :=
 (fp ps hp && (fp ps e0 && fp ps e1)) && (eA n b && gR D b)
theorem Jp {R : Type} {P : Program} {tr : Tr} (hT : tr.all (vr P) = true) (hE : uX P (jI tr)) (hm : P.follows .mixedOrders = true) {S : hU} (hS : kr P S) {D : jd} {n id : Nat} {w0 : World} {mu : Mu} {ps : List AP} {hp e0 e1 : List (Option AP)} {b : Code} {r : R} {L : kY R}
   {L' : kY (Sum (ak (ar hp)) (Sum (ak (ar e0)) (ak (ar e1))))} {round : ak (ar hp) → Option (Sum (ak (ar hp)) (Sum (ak (ar e0)) (ak (ar e1))))}
   (hs : ka ps mu) (m7 : CF D ps hp e0 e1 n b = true)
   (Ae : ∀ z, ∀ p ∈ cC b, km P w0 mu n L' z p.1 p.2) (GG : ∀ x, dt (jI tr) S D L' b (l6 hp x) (yl id hp e0 e1) = round x) (hL : ∀ st k, L id b st k = ym hp e0 e1 round st k) : km P w0 mu n L r id b := by
 unfold CF at m7; rw [Bool.and_eq_true, Bool.and_eq_true (eA n b)] at m7; exact NW (nY (iP hT) hE hS w0 mu n) (qQ (iP hT) hE hm (nY (iP hT) hE hS w0 mu n)) hs m7.1 m7.2.1 (qc b m7.2.2) (fun z => n4 b (Ae z)) GG hL
def cj {A B C : Type} (o : Option (Sum A B)) (f : A → Option C) (g : B → Option C) : Option C :=
 o.bind fun z => match z with
   | .inl y => f y
   | .inr y => g y
end Go.TM
