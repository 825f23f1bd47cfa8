/- A machine over trees: an evaluator of the code, and that what it finds is so; part 3. -/
import Derived.Test.YtiljcjnnhkidbaaTm2
import Derived.Laws.Sem
import Derived.Deep.LoopGhost
import Derived.OrdersHeld
import Derived.KernelRfl
import Derived.Carry
import Derived.ChangeArms
import Derived.ChangeOld
import Derived.OpenShut
namespace Go.TM
open Go Go.RowKit
def tF (st : St) (n : Nat × Nat) : Prop := ∃ g A, aQ st n.1 n.2 g = some A ∧ A.md ≠ .ho
theorem I9 {st : St} {own : Bool} {x : CV} {o : OV} {u : Option Lb} {r : List (Nat × Nat)} (h : eR st own x = some (o, u, r)) : (∀ s j, u = some (.sp s j) → tF st (s, j)) ∧ ∀ p ∈ r, tF st p := by
 cases x with
 | ref a j g w =>
   unfold eR at h; simp only at h
   cases hA : aQ st a j g with
   | none => simp [hA] at h
   | some A =>
     simp only [hA] at h
     cases hm : A.md.is .ho with
     | true => simp [hm] at h
     | false =>
     have vu : A.md ≠ .ho := by intro e; rw [e] at hm; simp [Md.is] at hm
     simp only [hm, cond_false] at h
     cases hb : (own && A.own && (A.md.is .sh || w.isFull)) <;> simp only [hb, cond_true, cond_false, Option.some.injEq, Prod.mk.injEq] at h <;> obtain ⟨_, rfl, rfl⟩ := h
     · exact ⟨by simp, fun p hp => by simp at hp; subst hp; exact ⟨g, A, hA, vu⟩⟩
     · refine ⟨fun s k e => ?_, by simp⟩; simp only [Option.some.injEq, Lb.sp.injEq] at e; obtain ⟨rfl, rfl⟩ := e; exact ⟨g, A, hA, vu⟩
 | mR a j g e i k q ys =>
   unfold eR at h; simp only at h
   cases hA : aQ st a j g with
   | none => simp [hA] at h
   | some A =>
     simp only [hA] at h; obtain ⟨h1, h⟩ := aD h; rw [Bool.and_eq_true] at h1; have hm := Md.kS.1 h1.1; simp only [Option.some.injEq, Prod.mk.injEq] at h; obtain ⟨_, rfl, rfl⟩ := h; exact ⟨by simp, fun p hp => by simp at hp; subst hp; exact ⟨g, A, hA, by rw [hm]; simp⟩⟩
 | jY q y off => obtain ⟨_, rfl, rfl⟩ := tw h; simp
 | qk q y off => obtain ⟨_, rfl, rfl⟩ := qG h; simp
 | _ => simp [eR] at h <;> (try (obtain ⟨_, rfl, rfl⟩ := h; simp))
theorem qJ {st : St} {own : Bool} : (cs : List CV) → {os : List OV} → {u : List (Option Lb)} → {r : List (Nat × Nat)} → ed st own cs = some (os, u, r) → (∀ s j, .sp s j ∈ bq u → tF st (s, j)) ∧ ∀ p ∈ r, tF st p
 | [], _, _, _, h => by
   simp only [ed, Option.some.injEq, Prod.mk.injEq] at h; obtain ⟨_, rfl, rfl⟩ := h; simp [bq]
 | x :: cs, os, u, r, h => by
   unfold ed at h
   cases hc : eR st own x with
   | none => simp [hc] at h
   | some p =>
     obtain ⟨o, u1, r1⟩ := p
     cases hq : ed st own cs with
     | none => simp [hc, hq] at h
     | some q =>
       obtain ⟨w6, us, rs⟩ := q; simp only [hc, hq, Option.some.injEq, Prod.mk.injEq] at h; obtain ⟨_, rfl, rfl⟩ := h; obtain ⟨a1, a2⟩ := I9 hc; obtain ⟨b1, b2⟩ := qJ cs hq; refine ⟨fun s j hm => ?_, fun p hp => ?_⟩
       · rw [fx] at hm; rcases List.mem_cons.1 hm with hm | hm
         · exact a1 s j hm.symm
         · exact b1 s j (fx.2 hm)
       · rcases List.mem_append.1 hp with hp | hp
         · exact a2 p hp
         · exact b2 p hp
theorem EB {st : St} {m : Pm} {v : V} {av : AV} {u q : List Lb} {r : List (Nat × Nat)} (h : dA st m v = some (av, u, q, r)) : (∀ s j, .sp s j ∈ u → tF st (s, j)) ∧ ∀ p ∈ r, tF st p := by
 have single : ∀ own cs ag, (match ed st own cs with | some (os, u, r) => some (AV.val ag os, bq u, bq u, r) | none => none) = some (av, u, q, r) → (∀ s j, .sp s j ∈ u → tF st (s, j)) ∧ ∀ p ∈ r, tF st p := by
   intro own cs ag h
   cases hq : ed st own cs with
   | none => simp [hq] at h
   | some p =>
     obtain ⟨os, us, rs⟩ := p; simp only [hq, Option.some.injEq, Prod.mk.injEq] at h; obtain ⟨_, rfl, rfl, rfl⟩ := h; exact qJ cs hq
 cases v with
 | kR _ => simp [dA] at h
 | agg cs =>
   unfold dA at h
   cases m with
   | shr => exact single _ _ _ h
   | own => exact single _ _ _ h
   | pick _ => exact single _ _ _ h
   | io => exact single _ _ _ h
   | bo =>
     simp only at h
     cases hq : ed st true cs with
     | none => simp [hq] at h
     | some p =>
       obtain ⟨os, us, rs⟩ := p; simp only [hq] at h; obtain ⟨_, h1⟩ := aD h; simp only [Option.some.injEq, Prod.mk.injEq] at h1; obtain ⟨_, rfl, _, rfl⟩ := h1; exact qJ cs hq
 | one cx =>
   cases cx with
   | ptr b g off =>
     unfold dA at h; simp only at h
     cases hb : cV st b g with
     | none => simp [hb] at h
     | some cs =>
       simp only [hb] at h
       cases hq : ed st true cs with
       | none => simp [hq] at h
       | some p =>
         obtain ⟨os, us, rs⟩ := p; simp only [hq] at h; obtain ⟨_, h1⟩ := aD h; simp only [Option.some.injEq, Prod.mk.injEq] at h1; obtain ⟨_, rfl, rfl, rfl⟩ := h1; obtain ⟨a1, a2⟩ := qJ cs hq; refine ⟨fun s j hm => ?_, a2⟩; rcases List.mem_cons.1 hm with hm | hm
         · cases hm
         · exact a1 s j hm
   | ref s j g vw =>
     unfold dA at h
     cases m with
     | shr => exact single _ _ _ h
     | own => exact single _ _ _ h
     | pick _ => exact single _ _ _ h
     | bo => exact single _ _ _ h
     | io =>
       cases vw with
       | full =>
         cases hA : aQ st s j g with
         | none => simp [hA] at h
         | some A =>
           simp only [hA] at h; obtain ⟨hb, h1⟩ := aD h; simp only [Option.some.injEq, Prod.mk.injEq] at h1; obtain ⟨_, rfl, _, rfl⟩ := h1; refine ⟨fun s' j' hm => ?_, by simp⟩; simp at hm; obtain ⟨rfl, rfl⟩ := hm; rw [Bool.and_eq_true] at hb; exact ⟨g, A, hA, fun e => by rw [e] at hb; simp [Md.is] at hb⟩
       | «from» _ => simp at h
       | sub _ _ => simp at h
   | _ =>
     unfold dA at h; simp only at h
     split at h
     · rename_i os us rs hq; simp only [Option.some.injEq, Prod.mk.injEq] at h; obtain ⟨_, rfl, _, rfl⟩ := h; exact qJ _ hq
     · cases h
theorem yM {st : St} : (ms : List (Pm × V)) → {cM : List AV} → {u q : List Lb} → {r : List (Nat × Nat)} → gm st ms = some (cM, u, q, r) → (∀ s j, .sp s j ∈ u → tF st (s, j)) ∧ ∀ p ∈ r, tF st p
 | [], _, _, _, _, h => by
   simp only [gm, Option.some.injEq, Prod.mk.injEq] at h; obtain ⟨_, rfl, _, rfl⟩ := h; simp
 | (m, v) :: ms, cM, u, q, r, h => by
   unfold gm at h
   cases h1 : dA st m v with
   | none => simp [h1] at h
   | some p1 =>
     obtain ⟨av, u1, q1, r1⟩ := p1
     cases h2 : gm st ms with
     | none => simp [h1, h2] at h
     | some p2 =>
       obtain ⟨NB, u2, q2, r2⟩ := p2; simp only [h1, h2, Option.some.injEq, Prod.mk.injEq] at h; obtain ⟨_, rfl, _, rfl⟩ := h; obtain ⟨a1, a2⟩ := EB h1; obtain ⟨b1, b2⟩ := yM ms h2; refine ⟨fun s j hm => ?_, fun p hp => ?_⟩
       · rcases List.mem_append.1 hm with hm | hm
         · exact a1 s j hm
         · exact b1 s j hm
       · rcases List.mem_append.1 hp with hp | hp
         · exact a2 p hp
         · exact b2 p hp
theorem zC : {l : List Nat} → C2 l = true → ∀ {a b : Nat} {x y : Nat}, l[a]? = some x → l[b]? = some y → a < b → x < y
 | [], _, a, b, x, y, h, _, _ => by simp at h
 | [z], _, a, b, x, y, h1, h2, hab => by
   have : b = 0 := by
     have := (List.getElem?_eq_some_iff.1 h2).1; simpa using this
   omega
 | z :: z' :: l, h, a, b, x, y, h1, h2, hab => by
   simp only [C2, Bool.and_eq_true] at h; have hz : z < z' := by have := h.1; simp [Nat.blt] at this; omega
   cases b with
   | zero => omega
   | succ b =>
     cases a with
     | succ a => exact zC h.2 (by simpa using h1) (by simpa using h2) (by omega)
     | zero =>
       simp at h1; subst h1
       cases b with
       | zero => simp at h2; omega
       | succ b =>
         have := zC (a := 0) (b := b + 1) h.2 rfl (by simpa using h2) (by omega); omega
theorem KJ {l : List Nat} (h : C2 l = true) {a b x : Nat} (h1 : l[a]? = some x) (h2 : l[b]? = some x) : a = b := by
 rcases Nat.lt_trichotomy a b with h3 | h3 | h3
 · have := zC h h1 h2 h3; omega
 · exact h3
 · have := zC h h2 h1 h3; omega
theorem Ar {k : Nat} : (n : Nat) → (l : List Dr) → (∃ y ∈ l, y.k = k) → ∃ i y, posOf k n l = n + i ∧ l[i]? = some y ∧ y.k = k
 | n, [], h => by obtain ⟨y, hy, _⟩ := h; cases hy
 | n, x :: l, h => by
   unfold posOf
   cases hb : Nat.beq x.k k with
   | true => exact ⟨0, x, rfl, rfl, Nat.eq_of_beq_eq_true hb⟩
   | false =>
     have fp : x.k ≠ k := by intro e; rw [e, Nat.beq_refl] at hb; cases hb
     obtain ⟨y, hy, e⟩ := h; rcases List.mem_cons.1 hy with rfl | hy
     · exact absurd e fp
     · obtain ⟨i, y', h1, h2, h3⟩ := Ar (n + 1) l ⟨y, hy, e⟩; exact ⟨i + 1, y', by rw [cond_false, h1]; omega, by simpa using h2, h3⟩
theorem EC {l : List Dr} (hi : C2 (l.map (·.k)) = true) {i : Nat} {y : Dr} (h : l[i]? = some y) : posOf y.k 0 l = i := by
 obtain ⟨i', y', h1, h2, h3⟩ := Ar (k := y.k) 0 l ⟨y, List.mem_of_getElem? h, rfl⟩; rw [h1, Nat.zero_add]; exact KJ hi (x := y.k) (by rw [List.getElem?_map, h2]; simp [h3]) (by rw [List.getElem?_map, h]; rfl)
def Dr.cv (y : Dr) : CV := .mR y.a y.j y.g y.e y.i y.k y.q y.ys
theorem rC {y : Dr} : {cs : List CV} → y ∈ vp cs → y.cv ∈ cs
 | [], h => by simp [vp] at h
 | c :: cs, h => by
   cases c with
   | mR a j g e i k q ys =>
     rcases List.mem_cons.1 h with rfl | h
     · exact List.mem_cons_self
     · exact List.mem_cons_of_mem _ (rC h)
   | _ => exact List.mem_cons_of_mem _ (rC h)
theorem Au {a j g e i k : Nat} {q : RT} {ys : List (ak q)} : {cs : List CV} → CV.mR a j g e i k q ys ∈ cs → (⟨a, j, g, e, i, k, q, ys⟩ : Dr) ∈ vp cs
 | [], h => by cases h
 | c :: cs, h => by
   rcases List.mem_cons.1 h with rfl | h
   · exact List.mem_cons_self
   · have := Au (cs := cs) h
     cases c with
     | mR _ _ _ _ _ _ _ _ => exact List.mem_cons_of_mem _ this
     | _ => exact this
theorem Av {y : Dr} : {ms : List (Pm × V)} → y ∈ oJ ms → ∃ m ∈ ms, (m = (.io, .one y.cv)) ∨ ∃ cs, m = (.bo, .agg cs) ∧ y.cv ∈ cs
 | [], h => by simp [oJ] at h
 | (p, v) :: ms, h => by
   have rest : y ∈ oJ ms → ∃ m ∈ (p, v) :: ms, (m = (.io, .one y.cv)) ∨ ∃ cs, m = (.bo, .agg cs) ∧ y.cv ∈ cs := fun h => by
     obtain ⟨m, hm, e⟩ := Av h; exact ⟨m, List.mem_cons_of_mem _ hm, e⟩
   cases p with
   | io => cases v with
     | one c =>
       rcases List.mem_append.1 h with h | h
       · have := rC h; simp at this; exact ⟨_, List.mem_cons_self, .inl (by rw [this])⟩
       · exact rest h
     | _ => exact rest h
   | bo => cases v with
     | agg cs =>
       rcases List.mem_append.1 h with h | h
       · exact ⟨_, List.mem_cons_self, .inr ⟨cs, rfl, rC h⟩⟩
       · exact rest h
     | _ => exact rest h
   | _ => exact rest (by cases v <;> exact h)
theorem Cl {a j g e i k : Nat} {q : RT} {ys : List (ak q)} : {ms : List (Pm × V)} → (.io, .one (.mR a j g e i k q ys)) ∈ ms → (⟨a, j, g, e, i, k, q, ys⟩ : Dr) ∈ oJ ms
 | [], h => by cases h
 | (p, v) :: ms, h => by
   rcases List.mem_cons.1 h with h | h
   · cases h
     exact List.mem_append_left _ List.mem_cons_self
   · have := Cl (ms := ms) h
     cases p <;> cases v <;> first | exact this | exact List.mem_append_right _ this
theorem yN {a j g e i k : Nat} {q : RT} {ys : List (ak q)} {cs : List CV} (hc : CV.mR a j g e i k q ys ∈ cs) : {ms : List (Pm × V)} → (.bo, .agg cs) ∈ ms → (⟨a, j, g, e, i, k, q, ys⟩ : Dr) ∈ oJ ms
 | [], h => by cases h
 | (p, v) :: ms, h => by
   rcases List.mem_cons.1 h with h | h
   · cases h
     exact List.mem_append_left _ (Au hc)
   · have := yN hc (ms := ms) h
     cases p <;> cases v <;> first | exact this | exact List.mem_append_right _ this
theorem xe {st : St} {ms : List (Pm × V)} {x : Dr} {A : fT} {l : List Dr} (h : rh st ms = some (x, A, l)) :
   l = oJ ms ∧ aQ st x.a x.j x.g = some A ∧ A.own = true ∧ A.md = .dp ∧ kQ st x.a = x.e ∧ (∀ y ∈ l, y.a = x.a ∧ y.j = x.j ∧ y.g = x.g ∧ y.e = x.e ∧ y.i = x.i) ∧ C2 (l.map (·.k)) = true ∧ x.a ≠ st.length - 1 := by
 unfold rh at h
 cases hd : oJ ms with
 | nil => rw [hd] at h; cases h
 | cons y l' =>
   rw [hd] at h; simp only at h
   cases hA : aQ st y.a y.j y.g with
   | none => rw [hA] at h; cases h
   | some B =>
     rw [hA] at h; simp only at h; obtain ⟨h1, h⟩ := aD h; simp only [Option.some.injEq, Prod.mk.injEq] at h; obtain ⟨rfl, rfl, rfl⟩ := h; simp only [Bool.and_eq_true] at h1; obtain ⟨⟨⟨⟨⟨h1, h2⟩, h3⟩, h4⟩, h5⟩, h6⟩ := h1; refine ⟨rfl, hA, h1, Md.kS.1 h2, (Nat.eq_of_beq_eq_true h3).symm, fun z hz => ?_, h5, fun e => ?_⟩
     · rcases List.mem_cons.1 hz with rfl | hz
       · exact ⟨rfl, rfl, rfl, rfl, rfl⟩
       · have := List.all_eq_true.1 h4 z hz; simp only [Bool.and_eq_true] at this; obtain ⟨⟨⟨⟨q1, q2⟩, q3⟩, q4⟩, q5⟩ := this; exact ⟨Nat.eq_of_beq_eq_true q1, Nat.eq_of_beq_eq_true q2, Nat.eq_of_beq_eq_true q3, Nat.eq_of_beq_eq_true q4, Nat.eq_of_beq_eq_true q5⟩
     · rw [← e, Nat.beq_refl] at h6
       cases h6
theorem ED : (r : RT) → (x : ak r) → (k : Nat) → {p : (q : RT) × List (ak q)} → nM r x k = some p → k < r.width
 | .nil, _, _, _, h => by simp [nM] at h
 | .cons t r, x, 0, _, _ => by simp [RT.width]
 | .cons t r, x, k + 1, p, h => by
   have h' : nM r x.2 k = some p := by cases t <;> exact h
   have := ED r x.2 k h'; simp [RT.width]; omega
noncomputable def Cz.split (c : Cz) (a j i P : Nat) (gg : Nat → List Nat) (l : List Dr) (JY : Nat → Loc) : Cz :=
 { bx := c.bx, lc := fun s k => if s = P then JY k else c.lc s k,
   own := fun k => have := Classical.propDecidable (c.own k = some (.sp a j) ∧ ∃ y q, y ∈ l ∧ gg k = i :: y.k :: q); if c.own k = some (.sp a j) ∧ ∃ y q, y ∈ l ∧ gg k = i :: y.k :: q then some (.sp P (posOf ((gg k).getD 1 0) 0 l)) else c.own k }
theorem Cz.oz {c : Cz} {a j i P : Nat} {gg : Nat → List Nat} {l : List Dr} {JY : Nat → Loc} {k : Nat} (h : ¬ (c.own k = some (.sp a j) ∧ ∃ y q, y ∈ l ∧ gg k = i :: y.k :: q)) : (c.split a j i P gg l JY).own k = c.own k := by
 unfold Cz.split; simp only; rw [if_neg h]
theorem Cz.EE {c : Cz} {a j i P : Nat} {gg : Nat → List Nat} {l : List Dr} {JY : Nat → Loc} (hi : C2 (l.map (·.k)) = true) {k n : Nat} {y : Dr} {q : List Nat} (h : c.own k = some (.sp a j)) (hy : l[n]? = some y) (hg : gg k = i :: y.k :: q) : (c.split a j i P gg l JY).own k = some (.sp P n) := by
 unfold Cz.split; simp only; rw [if_pos ⟨h, y, q, List.mem_of_getElem? hy, hg⟩, hg]; have : (i :: y.k :: q).getD 1 0 = y.k := rfl; rw [this, EC hi hy]
theorem Cz.xf {c : Cz} {a j i P : Nat} {gg : Nat → List Nat} {l : List Dr} {JY : Nat → Loc} {k : Nat} : (c.split a j i P gg l JY).ok k ↔ c.ok k := by
 unfold Cz.ok
 by_cases h : c.own k = some (.sp a j) ∧ ∃ y q, y ∈ l ∧ gg k = i :: y.k :: q
 · have h0 := h.1; unfold Cz.split; simp only; rw [if_pos h, h0]; simp
 · rw [Cz.oz h]
theorem Cz.Gq {c : Cz} {a j i P : Nat} {gg : Nat → List Nat} {l : List Dr} {JY : Nat → Loc} {k : Nat} {lb : Lb} (h : (c.split a j i P gg l JY).own k = some lb) : c.own k = some lb ∨ (c.own k = some (.sp a j) ∧ ∃ n, lb = .sp P n) := by
 by_cases h1 : c.own k = some (.sp a j) ∧ ∃ y q, y ∈ l ∧ gg k = i :: y.k :: q
 · unfold Cz.split at h; simp only at h; rw [if_pos h1] at h; exact .inr ⟨h1.1, _, (Option.some.inj h).symm⟩
 · rw [Cz.oz h1] at h; exact .inl h
theorem tG {st : St} {x : Dr} {A : fT} {l : List Dr} (fp : x.a ≠ st.length - 1) (s : Nat) : nth (ea st x A l) s = if s = st.length - 1 then (nth st s).map (fun z => { z with aI := l.map (fun y => some y.arr), ag := z.ag + 1, ep := z.ep + 1 }) else
   (if s = x.a then (nth st s).map (fun z => { z with aI := kK (fun _ => some { A with md := .ho }) z.aI x.j, ep := z.ep + 1 }) else nth st s) := by
 unfold ea bl; rw [cK, cK]
 by_cases e : s = st.length - 1
 · rw [if_pos e, if_pos e, if_neg (show ¬ (s = x.a) from fun e' => fp (e'.symm.trans e))]
 · rw [if_neg e, if_neg e]
end Go.TM
namespace Go.TM
open Go Go.RowKit
structure OO (c c1 : Cz) (st : St) (w : World) (x : Dr) (A : fT) (l : List Dr) (gg : Nat → List Nat) (b o cap : Nat) : Prop where
 lc : c.lc x.a x.j = .at b o cap
 lc1 : c1.lc x.a x.j = .at b o cap
 own : c.own b = some (.sp x.a x.j)
 g0 : gg b = []
 rows : ∀ (i : Nat) z, A.xs[i]? = some z → fE w (fun p k => c.own k = some (.sp x.a x.j) ∧ gg k = p) A.r [i] 0 b (o + i * A.r.width) z
 stay : ∀ k, c.own k = some (.sp x.a x.j) → (∀ y ∈ l, ∀ q, gg k ≠ x.i :: y.k :: q) → c1.own k = some (.sp x.a x.j)
 out : ∀ n y, l[n]? = some y → ∃ v, w.cell? ⟨b, o + x.i * A.r.width + y.k, none⟩ = some v ∧ v.oneCell' = true ∧ gN (c1.lc (st.length - 1) n) y.q.width 0 y.ys.length v ∧ y.k < A.r.width
 len : x.i < A.xs.length
theorem xf {w0 : World} {mu : Mu} {c : Cz} {st : St} {a : Act} {w : World} (h : Rel w0 mu c st a w) {ms : List (Pm × V)} {x : Dr} {A : fT} {l : List Dr} (hs : rh st ms = some (x, A, l)) (tE : ∀ m ∈ ms, ∃ v, dS c st w m.2 v) :
   ∃ (c1 : Cz) (gg : Nat → List Nat) (b o cap : Nat), Rel w0 mu c1 (ea st x A l) a w ∧ Fw c st w c1 (ea st x A l) w ∧ OO c c1 st w x A l gg b o cap ∧
     ∀ m ∈ ms, ∀ v, dS c st w m.2 v → dS c1 (ea st x A l) w (PW (st.length - 1) (ml st (st.length - 1) + 1) l m).2 v := by
 obtain ⟨hl, hA, fh, vu, hep, oS, Ja, fp⟩ := xe hs; have oV : ∀ y ∈ l, ∃ v, im c st w y.cv v := by
   intro y hy; rw [hl] at hy; obtain ⟨m, hm, e | ⟨cs, e, hc⟩⟩ := Av hy
   · obtain ⟨v, hv⟩ := tE m hm; rw [e] at hv; exact ⟨v, hv⟩
   · obtain ⟨v, hv⟩ := tE m hm; rw [e] at hv; obtain ⟨vs, rfl, hL⟩ := hv; obtain ⟨k, hk⟩ := List.mem_iff_getElem?.1 hc; have bP : k < vs.toList.length := by rw [← hL.1]; exact (List.getElem?_eq_some_iff.1 hk).1
     exact ⟨_, hL.2 k _ _ hk (List.getElem?_eq_getElem bP)⟩
 have TW : ∀ y ∈ l, ∀ v, im c st w y.cv v → ∃ (gg : Nat → List Nat) (b o cap : Nat), c.lc x.a x.j = .at b o cap ∧ A.md = .dp ∧ gg b = [] ∧ w.cell? ⟨b, o + x.i * A.r.width + y.k, none⟩ = some v ∧
     (∀ (i : Nat) z, A.xs[i]? = some z → fE w (fun p k => c.own k = some (.sp x.a x.j) ∧ gg k = p) A.r [i] 0 b (o + i * A.r.width) z) ∧ (∃ z, A.xs[x.i]? = some z ∧ nM A.r z y.k = some ⟨y.q, y.ys⟩) := by
   intro y hy v hv; obtain ⟨e1, e2, e3, e4, e5⟩ := oS y hy; obtain ⟨ya, yj, yg, ye, yi, yk, yq, yys⟩ := y; simp only at e1 e2 e3 e4 e5; subst e1 e2 e3 e4 e5; obtain ⟨gg, b, o, cap, h1, h2, h3, h4, h5, h6, _⟩ := Eo hv hA hep (h.qE hA); exact ⟨gg, b, o, cap, h1, h2, h3, h4, h5, h6⟩
 have dI := h.qE hA; obtain ⟨y0, TX⟩ : ∃ y, y ∈ l := by
   cases Qo : l with
   | cons y _ => exact ⟨y, List.mem_cons_self⟩
   | nil =>
     rw [Qo] at hl; unfold rh at hs; rw [← hl] at hs
     cases hs
 obtain ⟨v0, hv0⟩ := oV y0 TX; obtain ⟨gg, b, o, cap, gn, _, Nb, _, wV, OQ⟩ := TW y0 TX v0 hv0; have KK : ∀ y ∈ l, ∀ v, im c st w y.cv v → w.cell? ⟨b, o + x.i * A.r.width + y.k, none⟩ = some v ∧ (∃ z, A.xs[x.i]? = some z ∧ nM A.r z y.k = some ⟨y.q, y.ys⟩) := by
   intro y hy v hv; obtain ⟨_, b', o', F3, h1, _, _, h4, _, h6⟩ := TW y hy v hv; rw [gn] at h1; injection h1 with e1 e2 e3; subst e1 e2 e3; exact ⟨h4, h6⟩
 have KM : ∀ n : Nat, ∃ lc : Loc, ∀ y, l[n]? = some y → ∃ v, w.cell? ⟨b, o + x.i * A.r.width + y.k, none⟩ = some v ∧ v.oneCell' = true ∧ gN lc y.q.width 0 y.ys.length v ∧
     ((lc = .nil ∧ y.ys = []) ∨ ∃ b' off F3, lc = .at b' off F3 ∧ (c.own b' = some (.sp x.a x.j) ∧ gg b' = [x.i, y.k]) ∧ y.ys.length ≤ F3 ∧ (∃ cur ty, w.heap[b']? = some (.cells cur ty (0, 0)) ∧ off + F3 * y.q.width ≤ cur.size) ∧
       ∀ (i : Nat) z, y.ys[i]? = some z → fE w (fun p k => c.own k = some (.sp x.a x.j) ∧ gg k = p) y.q ([x.i, y.k] ++ [i]) 0 b' (off + i * y.q.width) z) := by
   intro n
   cases hn : l[n]? with
   | none => exact ⟨.nil, fun y hy => by cases hy⟩
   | some y =>
     have hy := List.mem_of_getElem? hn; obtain ⟨v, hv⟩ := oV y hy; obtain ⟨h4, z, Qp, NF⟩ := KK y hy v hv; obtain ⟨v', q1, q2⟩ := xY A.r [x.i] 0 _ z y.k (wV x.i z Qp) NF; rw [h4] at q1
     cases q1
     obtain ⟨lc, r1, r2, r3⟩ := (tf _ _ _ _ _ _).1 q2; refine ⟨lc, fun y' Nc => ?_⟩
     cases Nc
     exact ⟨v, h4, r2, r1, by simpa using r3⟩
 obtain ⟨JY, Qq⟩ := Classical.axiomOfChoice KM; have hb : c.own b = some (.sp x.a x.j) := by
   unfold bz at dI; rw [gn] at dI; have := dI.1
   rwa [fh] at this
 let P := st.length - 1
 let c1 := c.split x.a x.j x.i P gg l JY
 have xg := tG (A := A) (l := l) fp; obtain ⟨sla, OR, ha2, TY⟩ := a7 hA; have Qr : P < st.length := by
   have := C3 OR; show st.length - 1 < st.length; omega
 obtain ⟨slP, hP⟩ : ∃ s, nth st P = some s := ⟨st[P], by rw [ff]; exact List.getElem?_eq_getElem Qr⟩; have YD : ml st P = slP.ag := by unfold ml; rw [hP]
 have Cm : ∀ s k, s ≠ P → c1.lc s k = c.lc s k := fun s k e => by show (if s = P then _ else _) = _; rw [if_neg e]
 have KN : ∀ k, c1.lc P k = JY k := fun k => by show (if P = P then _ else _) = _; rw [if_pos rfl]
 have x4 : ∀ s, cD st s ≤ cD (ea st x A l) s ∧ fD st s = fD (ea st x A l) s ∧ kQ st s ≤ kQ (ea st x A l) s ∧ (s = P ∨ s = x.a → nth st s ≠ none → kQ (ea st x A l) s ≠ kQ st s) := by
   intro s; unfold cD fD kQ; rw [xg]
   by_cases e : s = st.length - 1
   · rw [if_pos e]
     cases nth st s with
     | none => simp
     | some z => refine ⟨by simp, rfl, by simp, fun _ _ => by simp⟩
   · rw [if_neg e]
     by_cases e2 : s = x.a
     · rw [if_pos e2]
       cases nth st s with
       | none => simp
       | some z => refine ⟨by simp, rfl, by simp, fun _ _ => by simp⟩
     · rw [if_neg e2]; exact ⟨Nat.le_refl _, rfl, Nat.le_refl _, fun h => absurd h (by rintro (h | h); exact e h; exact e2 h)⟩
 have TZ : cD (ea st x A l) P = slP.ag + 1 := by
   unfold cD; rw [xg, if_pos rfl, hP]; rfl
 have fw : Fw c st w c1 (ea st x A l) w := {
   stays := ⟨Nat.le_refl _, fun _ _ _ => rfl, fun _ _ h => Cz.xf.2 h⟩
   refs := fun a' j' g' A2 hg Gh => by
     obtain ⟨sl, k1, k2, k3⟩ := a7 Gh; rw [xg] at k1
     by_cases e : a' = st.length - 1
     · rw [if_pos e] at k1; obtain ⟨z, hz, rfl⟩ := Option.map_eq_some_iff.1 k1; unfold cD at hg; rw [hz] at hg; simp only at k2 hg; omega
     · rw [if_neg e] at k1
       by_cases e2 : a' = x.a
       · rw [if_pos e2] at k1; obtain ⟨z, hz, rfl⟩ := Option.map_eq_some_iff.1 k1; have T0 := (x4 a').2.2.2 (.inr e2) (by rw [hz]; simp); simp only at k2 k3; rw [cK] at k3
         by_cases e3 : j' = x.j
         · rw [if_pos e3] at k3; subst e2 e3; rw [OR] at hz
           cases hz
           rw [TY] at k3; simp only [Option.map_some, Option.some.injEq] at k3; subst k3; exact ⟨A, ma OR k2 TY, rfl, rfl, Cm _ _ e, fun he => absurd he T0⟩
         · rw [if_neg e3] at k3; exact ⟨A2, ma hz k2 k3, rfl, rfl, Cm _ _ e, fun he => absurd he T0⟩
       · rw [if_neg e2] at k1; exact ⟨A2, ma k1 k2 k3, rfl, rfl, Cm _ _ e, fun _ => ⟨rfl, fun _ _ _ _ => rfl⟩⟩
   zy := fun b' g' lA _ ka => by
     refine ⟨⟨lA, ?_⟩, rfl⟩; unfold cV at ka ⊢; rw [xg] at ka
     by_cases e : b' = st.length - 1
     · rw [if_pos e] at ka
       cases hz : nth st b' with
       | none => rw [hz] at ka; cases ka
       | some z => rw [hz] at ka; exact ka
     · rw [if_neg e] at ka
       by_cases e2 : b' = x.a
       · rw [if_pos e2] at ka
         cases hz : nth st b' with
         | none => rw [hz] at ka; cases ka
         | some z => rw [hz] at ka; exact ka
       · rw [if_neg e2] at ka; exact ka
   gA := fun s => (x4 s).1
   gB := fun s => Nat.le_of_eq (x4 s).2.1
   gE := fun s => (x4 s).2.2.1 }
 have T1 : ∀ t, bI (ea st x A l) t = bI st t := by
   intro t; unfold bI; rw [xg]
   by_cases e : t = st.length - 1
   · rw [if_pos e]; cases nth st t <;> rfl
   · rw [if_neg e]
     by_cases e2 : t = x.a
     · rw [if_pos e2]; cases nth st t <;> rfl
     · rw [if_neg e2]
 have other : ∀ s k B, bz c w s k B → ¬ (s = x.a ∧ k = x.j) → s ≠ P → bz c1 w s k B := by
   intro s k B hB hn hsP; refine hB.go fw.stays (Cm s k hsP) (fun kb hk => ⟨rfl, Cz.oz ?_⟩)
   rintro ⟨h1, _⟩
   rw [hk] at h1; injection h1 with h1; injection h1 with e1 e2; exact hn ⟨e1, e2⟩
 have YE : Rel w0 mu c1 (ea st x A l) a w := {
   eL := fun t => by rw [T1]; exact fw.lB (h.eL t)
   boxes := fun s sl cs hs ka => by
     have : ∃ OL, nth st s = some OL ∧ OL.box = some cs := by
       rw [xg] at hs
       by_cases e : s = st.length - 1
       · rw [if_pos e] at hs; obtain ⟨z, hz, rfl⟩ := Option.map_eq_some_iff.1 hs; exact ⟨z, hz, ka⟩
       · rw [if_neg e] at hs
         by_cases e2 : s = x.a
         · rw [if_pos e2] at hs; obtain ⟨z, hz, rfl⟩ := Option.map_eq_some_iff.1 hs; exact ⟨z, hz, ka⟩
         · rw [if_neg e2] at hs; exact ⟨sl, hs, ka⟩
     obtain ⟨OL, gi, P0⟩ := this; have zr := h.boxes s OL cs gi P0; refine zr.go fw rfl (Cz.oz ?_) rfl
     rintro ⟨h1, _⟩
     rw [zr.1] at h1
     cases h1
   aI := fun s k sl B hs hB => by
     rw [xg] at hs
     by_cases e : s = st.length - 1
     · rw [if_pos e] at hs; obtain ⟨z, hz, rfl⟩ := Option.map_eq_some_iff.1 hs; simp only at hB; rw [ff, List.getElem?_map] at hB
       cases hy : l[k]? with
       | none => rw [hy] at hB; cases hB
       | some y =>
         rw [hy] at hB; simp only [Option.map_some, Option.some.injEq] at hB; subst hB; obtain ⟨v, r1, r2, r3, r4⟩ := Qq k y hy; have es : s = P := e; rw [es]; unfold bz; rw [KN]; rcases r4 with ⟨e4, e5⟩ | ⟨b', off, F3, e4, ⟨q1, q2⟩, q3, q4, q5⟩
         · rw [e4]; exact e5
         · rw [e4]; refine ⟨Cz.EE Ja q1 hy (q := []) q2, q3, q4, ?_⟩; unfold bj; show match (bif y.q.dz then Md.dp else Md.sh) with | .sh => _ | .dp => _ | .ho => True
           cases NG : y.q.dz with
           | false => exact fun i z hz => fE.D8 _ _ _ _ _ z NG (q5 i z hz)
           | true =>
             refine ⟨fun k => (gg k).drop 2, by show List.drop 2 (gg b') = []; rw [q2]; rfl, fun i z hz => fE.go _ _ [i] (fun q kb hk => ⟨rfl, Cz.EE Ja hk.1 hy (q := [i] ++ q) (by rw [hk.2]; simp), by show List.drop 2 (gg kb) = _; rw [hk.2]; simp⟩) _ _ _ z rfl (q5 i z hz)⟩
     · rw [if_neg e] at hs
       by_cases e2 : s = x.a
       · rw [if_pos e2] at hs; obtain ⟨z, hz, rfl⟩ := Option.map_eq_some_iff.1 hs; simp only at hB; rw [cK] at hB
         by_cases e3 : k = x.j
         · rw [if_pos e3] at hB; subst e2 e3; rw [OR] at hz
           cases hz
           rw [TY] at hB; simp only [Option.map_some, Option.some.injEq] at hB; subst hB; unfold bz at dI ⊢; rw [Cm _ _ e, gn]; rw [gn] at dI; obtain ⟨h0, h2, h3, _⟩ := dI; refine ⟨?_, h2, h3, trivial⟩; show match A.own with | true => _ | false => _
           rw [fh]; show c1.own b = _; rw [Cz.oz]
           · exact hb
           · rintro ⟨_, y, q, _, hq⟩
             rw [Nb] at hq
             cases hq
         · rw [if_neg e3] at hB; exact other s k B (h.aI s k z B hz hB) (fun hh => e3 hh.2) e
       · rw [if_neg e2] at hs; exact other s k B (h.aI s k sl B hs hB) (fun hh => e2 hh.1) e
   owned := fun kb lb hk => by
     rcases Cz.Gq hk with h1 | ⟨h1, n, rfl⟩
     · exact h.owned kb lb h1
     · obtain ⟨g1, g2⟩ := h.owned kb _ h1; exact ⟨g1, .inr (g2.resolve_left (by simp))⟩
   free := fun kb bP hk => h.free kb bP (Cz.xf.1 hk)
   kept := h.kept
   old := h.old
   plain := h.plain
   dH := fun p hp => fw.dH (h.dH p hp) }
 refine ⟨c1, gg, b, o, cap, YE, fw, ⟨gn, by rw [Cm _ _ fp]; exact gn, hb, Nb, wV, fun k hk hq => ?_, fun n y hn => ?_, ?_⟩, ?_⟩
 · show c1.own k = _; rw [Cz.oz]
   · exact hk
   · rintro ⟨_, y, q, hy, hq'⟩
     exact hq y hy q hq'
 · obtain ⟨v, r1, r2, r3, _⟩ := Qq n y hn; refine ⟨v, r1, r2, by rw [KN]; exact r3, ?_⟩; obtain ⟨v', lC⟩ := oV y (List.mem_of_getElem? hn); obtain ⟨_, z, _, NF⟩ := KK y (List.mem_of_getElem? hn) v' lC; exact ED _ _ _ NF
 · obtain ⟨z, Qp, _⟩ := OQ; exact (List.getElem?_eq_some_iff.1 Qp).1
 · -- FU values J3 Sv iM
   have cell : ∀ cv v, im c st w cv v → (∀ a j g e i k q ys, cv = .mR a j g e i k q ys → (⟨a, j, g, e, i, k, q, ys⟩ : Dr) ∈ l) → im c1 (ea st x A l) w (PV (st.length - 1) (ml st (st.length - 1) + 1) l cv) v := by
     intro cv v hv hm
     cases cv with
     | mR a j g e i k q ys =>
       have hy := hm _ _ _ _ _ _ _ _ rfl; obtain ⟨n, hn⟩ := List.mem_iff_getElem?.1 hy; have KO : posOf k 0 l = n := EC Ja hn; show im c1 (ea st x A l) w (.ref P (posOf k 0 l) (ml st P + 1) .full) v; rw [KO]; obtain ⟨v', r1, r2, r3, _⟩ := Qq n _ hn; have hvv := (KK _ hy v hv).1; rw [r1] at hvv
       cases hvv
       refine ⟨r2, by rw [TZ, YD]; exact Nat.le_refl _, fun B hB => ?_⟩; obtain ⟨sl, k1, k2, k3⟩ := a7 hB; rw [xg, if_pos rfl] at k1; obtain ⟨z, hz, rfl⟩ := Option.map_eq_some_iff.1 k1; simp only at k3; rw [ff, List.getElem?_map, hn] at k3; simp only [Option.map_some, Option.some.injEq] at k3; subst k3; rw [KN]; exact r3
     | _ => exact fw.Kg hv
   intro m hm v hv; obtain ⟨pm, mv⟩ := m
   cases pm with
   | io => cases mv with
     | one cv =>
       exact cell cv v hv (fun a j g e i k q ys e1 => by rw [hl]; subst e1; exact Cl hm)
     | _ => exact fw.lB hv
   | bo => cases mv with
     | agg cs =>
       obtain ⟨vs, rfl, hL⟩ := hv; refine ⟨vs, rfl, by rw [List.length_map]; exact hL.1, fun i y u hy hu => ?_⟩; rw [List.getElem?_map] at hy; obtain ⟨y0, TX, rfl⟩ := Option.map_eq_some_iff.1 hy; exact cell y0 u (hL.2 i y0 u TX hu) (fun a j g e i k q ys e1 => by rw [hl]; subst e1; exact yN (List.mem_of_getElem? TX) hm)
     | _ => exact fw.lB hv
   | _ => cases mv <;> exact fw.lB hv
end Go.TM
namespace Go.TM
open Go Go.RowKit
theorem Rel.clear {w0 : World} {mu : Mu} {c : Cz} {st : St} {a : Act} {w : World} (h : Rel w0 mu c st a w) (P : Nat) : Rel w0 mu c (kK (fun s => { s with aI := [], ep := s.ep + 1 }) st P) a w ∧ Fw c st w c (kK (fun s => { s with aI := [], ep := s.ep + 1 }) st P) w := by
 have hn : ∀ s, nth (kK (fun s => { s with aI := [], ep := s.ep + 1 }) st P) s = if s = P then (nth st s).map (fun z => { z with aI := [], ep := z.ep + 1 }) else nth st s := fun s => cK _ _ _ _
 generalize kK (fun s => { s with aI := [], ep := s.ep + 1 }) st P = aP at hn ⊢; have fw : Fw c st w c aP w := {
   stays := gG.refl w _
   refs := fun a' j' g' A' _ dI => by
     obtain ⟨sl, k1, k2, k3⟩ := a7 dI; rw [hn] at k1
     by_cases e : a' = P
     · rw [if_pos e] at k1; obtain ⟨z, hz, rfl⟩ := Option.map_eq_some_iff.1 k1; simp [nth] at k3
     · rw [if_neg e] at k1; exact ⟨A', ma k1 k2 k3, rfl, rfl, rfl, fun _ => ⟨rfl, fun _ _ _ _ => rfl⟩⟩
   zy := fun b' g' lA _ ka => by
     refine ⟨⟨lA, ?_⟩, rfl⟩; unfold cV at ka ⊢; rw [hn] at ka
     by_cases e : b' = P
     · rw [if_pos e] at ka
       cases hz : nth st b' with
       | none => rw [hz] at ka; cases ka
       | some z => rw [hz] at ka; exact ka
     · rw [if_neg e] at ka; exact ka
   gA := fun s => by
     unfold cD; rw [hn]
     by_cases e : s = P
     · rw [if_pos e]; cases nth st s <;> simp
     · rw [if_neg e]; exact Nat.le_refl _
   gB := fun s => by
     unfold fD; rw [hn]
     by_cases e : s = P
     · rw [if_pos e]; cases nth st s <;> simp
     · rw [if_neg e]; exact Nat.le_refl _
   gE := fun s => by
     unfold kQ; rw [hn]
     by_cases e : s = P
     · rw [if_pos e]; cases nth st s <;> simp
     · rw [if_neg e]; exact Nat.le_refl _ }
 refine ⟨{
   eL := fun t => by
     have : bI aP t = bI st t := by
       unfold bI; rw [hn]
       by_cases e : t = P
       · rw [if_pos e]; cases nth st t <;> rfl
       · rw [if_neg e]
     rw [this]; exact fw.lB (h.eL t)
   boxes := fun s sl cs hs hb => by
     rw [hn] at hs
     by_cases e : s = P
     · rw [if_pos e] at hs; obtain ⟨z, hz, rfl⟩ := Option.map_eq_some_iff.1 hs; exact (h.boxes s z cs hz hb).go fw rfl rfl rfl
     · rw [if_neg e] at hs; exact (h.boxes s sl cs hs hb).go fw rfl rfl rfl
   aI := fun s j sl A hs hA => by
     rw [hn] at hs
     by_cases e : s = P
     · rw [if_pos e] at hs; obtain ⟨z, hz, rfl⟩ := Option.map_eq_some_iff.1 hs; simp [nth] at hA
     · rw [if_neg e] at hs; exact h.aI s j sl A hs hA
   owned := h.owned
   free := h.free
   kept := h.kept
   old := h.old
   plain := h.plain
   dH := fun p hp => fw.dH (h.dH p hp) }, fw⟩
theorem Rel.swap {w0 : World} {mu : Mu} {c : Cz} {st : St} {a : Act} {w : World} (h : Rel w0 mu c st a w) {s j g : Nat} {H B : fT} (hH : aQ st s j g = some H) (hw : B.r.width = H.r.width) (hn : B.xs.length = H.xs.length) (hB : bz c w s j B) :
   Rel w0 mu (c.dB id c.bx c.lc) (bl st s j (some B)) a w := by
 have fw : Fw c st w (c.dB id c.bx c.lc) (bl st s j (some B)) w := x3 (.inl hH) (fun _ e => by cases e; exact ⟨hw, hn⟩) id; have hX : iZ (fun _ => False) w0 mu c st a w := ⟨h.eL, fun s sl cs _ => h.boxes s sl cs, fun s j sl A _ => h.aI s j sl A, h.owned, h.free, h.kept, h.old, h.plain, h.dH⟩; refine (hX.dB oT fw (fun t => by rw [tC]; exact fw.lB (h.eL t)) (fun k sl cs _ hs hb => ?_) (fun k i sl A _ hs hA => ?_)).rel
 · obtain ⟨f, hf, hk⟩ := fC st s j (some B) k; rw [hk] at hs
   cases hx : nth st k with
   | none => rw [hx] at hs; simp at hs
   | some x =>
     rw [hx] at hs; simp at hs; subst hs; rw [(hf x).2.1] at hb; exact (h.boxes k x cs hx hb).dB oT fw rfl
 · obtain ⟨f, hf, hk⟩ := fC st s j (some B) k; rw [hk] at hs
   cases hx : nth st k with
   | none => rw [hx] at hs; simp at hs
   | some x =>
     rw [hx] at hs; simp at hs; subst hs; rw [(hf x).2.2.2.2.1 i] at hA
     by_cases e : k = s ∧ i = j
     · rw [if_pos e] at hA; obtain ⟨rfl, rfl⟩ := e
       cases hq : nth x.aI i with
       | none => simp [hq] at hA
       | some A1 =>
         simp only [hq, Option.map_some, Option.some.injEq] at hA; subst hA; exact hB.dB oT rfl
     · rw [if_neg e] at hA; exact (h.aI k i x A hx hA).dB oT rfl
def gr (w : World) (P : List Nat → Nat → Prop) (K : Nat → Prop) : (r : RT) → (p : List Nat) → (k : Nat) → List Value → ak r → Prop
 | .nil, _, _, vs, _ => vs = []
 | .cons t r, p, k, vs, x => ∃ v l, vs = v :: l ∧ (¬ K k → cE w P t (p ++ [k]) v x.1) ∧ gr w P K r p (k + 1) l x.2
theorem gr.of {w w' : World} {P P' : List Nat → Nat → Prop} {K : Nat → Prop} : (r : RT) → (p : List Nat) → (hP : ∀ k q b, ¬ K k → P (p ++ [k] ++ q) b → w'.heap[b]? = w.heap[b]? ∧ P' (p ++ [k] ++ q) b) → (k : Nat) → (vs : List Value) → (x : ak r) → dn w P r p k vs x → gr w' P' K r p k vs x
 | .nil, _, _, _, _, _, h => h
 | .cons t r, p, hP, k, vs, x, h => by
   obtain ⟨v, l, e, h1, h2⟩ := h; exact ⟨v, l, e, fun hk => cE.go t (p ++ [k]) (p ++ [k]) (fun q b hb => hP k q b hk hb) v x.1 h1, gr.of r p hP (k + 1) l x.2 h2⟩
theorem gr.full {w : World} {P : List Nat → Nat → Prop} {K : Nat → Prop} (hK : ∀ k, ¬ K k) : (r : RT) → (p : List Nat) → (k : Nat) → (vs : List Value) → (x : ak r) → gr w P K r p k vs x → dn w P r p k vs x
 | .nil, _, _, _, _, h => h
 | .cons t r, p, k, vs, x, h => by
   obtain ⟨v, l, e, h1, h2⟩ := h; exact ⟨v, l, e, h1 (hK k), gr.full hK r p (k + 1) l x.2 h2⟩
theorem gr.mono {w : World} {P : List Nat → Nat → Prop} {K K' : Nat → Prop} : (r : RT) → (p : List Nat) → (k : Nat) → (hK : ∀ c, k ≤ c → K c → K' c) → (vs : List Value) → (x : ak r) → gr w P K r p k vs x → gr w P K' r p k vs x
 | .nil, _, _, _, _, _, h => h
 | .cons t r, p, k, hK, vs, x, h => by
   obtain ⟨v, l, e, h1, h2⟩ := h; exact ⟨v, l, e, fun hk => h1 fun h => hk (hK k (Nat.le_refl _) h), gr.mono r p (k + 1) (fun c hc => hK c (by omega)) l x.2 h2⟩
theorem gr.set {w : World} {P : List Nat → Nat → Prop} {q : RT} {ys : List (ak q)} {v : Value} : {K : Nat → Prop} → (r : RT) → (p : List Nat) → (k0 : Nat) → (vs : List Value) → (x : ak r) → (col : Nat) → {z : ak r} → gr w P K r p k0 vs x → kT r x col q ys = some z → vs[col]? = some v → cE w P (.sl q) (p ++ [k0 + col]) v ys →
   gr w P (fun c => K c ∧ c ≠ k0 + col) r p k0 vs z
 | _, .nil, _, _, _, _, _, _, _, h, _, _ => by simp [kT] at h
 | K, .cons t r, p, k0, vs, x, 0, z, hx, h, hv, hd => by
   obtain ⟨v', l, rfl, h1, h2⟩ := hx
   cases t with
   | sl q' =>
     have h : (bn q' ys).map (fun zs => ((zs, x.2) : ak (.cons (.sl q') r))) = some z := h; obtain ⟨zs, T2, hz⟩ := Option.map_eq_some_iff.1 h; obtain ⟨e, rfl⟩ := aX T2; subst e; subst hz; simp only [List.getElem?_cons_zero, Option.some.injEq] at hv; subst hv; exact ⟨v', l, rfl, fun _ => hd, gr.mono r p (k0 + 1) (fun c hc hK => ⟨hK, by omega⟩) l x.2 h2⟩
   | int _ => simp [kT] at h
   | bool => simp [kT] at h
   | str => simp [kT] at h
 | K, .cons t r, p, k0, vs, x, col + 1, z, hx, h, hv, hd => by
   obtain ⟨v', l, rfl, h1, h2⟩ := hx; have h' : (kT r x.2 col q ys).map (fun z => ((x.1, z) : ak (.cons t r))) = some z := by cases t <;> exact h
   obtain ⟨z', hz', hz⟩ := Option.map_eq_some_iff.1 h'; subst hz; have := gr.set r p (k0 + 1) l x.2 col h2 hz' (by simpa using hv) (by rw [show k0 + 1 + col = k0 + (col + 1) by omega]; exact hd); refine ⟨v', l, rfl, fun hk => h1 fun h => hk ⟨h, by omega⟩, ?_⟩
   rwa [show k0 + 1 + col = k0 + (col + 1) by omega] at this
theorem Gr {w : World} {P : List Nat → Nat → Prop} {p : List Nat} {v : Value} {r s : RT} {xs : List (ak r)} {ys : List (ak s)} (h : bn s xs = some ys) (hd : cE w P (.sl r) p v xs) : cE w P (.sl s) p v ys := by
 obtain ⟨e, rfl⟩ := aX h; subst e; exact hd
theorem Aw {st : St} {P g : Nat} {r : RT} {w : World} {PP : List Nat → Nat → Prop} {p : List Nat} {vs : List Value} : (n : Nat) → (l : List Dr) → (z : ak r) → {z' : ak r} → ri st P g r n l z = some z' →
   (∀ m y, l[m]? = some y → ∀ B, aQ st P (n + m) g = some B → B.own = true → B.md = y.q.md → B.r = y.q → ∃ v, vs[y.k]? = some v ∧ cE w PP (.sl B.r) (p ++ [y.k]) v B.xs) →
   gr w PP (fun c => ∃ y ∈ l, y.k = c) r p 0 vs z → dn w PP r p 0 vs z'
 | n, [], z, z', h, _, hx => by
   simp only [ri, Option.some.injEq] at h; subst h; exact gr.full (by simp) _ _ _ _ _ hx
 | n, y :: l, z, z', h, hy, hx => by
   unfold ri at h
   cases hB : aQ st P n g with
   | none => rw [hB] at h; cases h
   | some B =>
     rw [hB] at h; obtain ⟨h1, h2⟩ := aD h; clear h; rw [Bool.and_eq_true] at h1
     cases hc : bn y.q B.xs with
     | none => rw [hc] at h2; cases h2
     | some ys =>
       rw [hc] at h2; simp only at h2
       cases hr : kT r z y.k y.q ys with
       | none => rw [hr] at h2; cases h2
       | some z1 =>
         rw [hr] at h2; simp only at h2; obtain ⟨e, he⟩ := aX hc; obtain ⟨v, hv, hd⟩ := hy 0 y rfl B hB h1.1 (Md.kS.1 h1.2) e; have H7 : cE w PP (.sl y.q) (p ++ [0 + y.k]) v ys := by
           rw [Nat.zero_add]; exact Gr hc hd
         refine Aw (n + 1) l z1 h2 (fun m y' hm B' BE => hy (m + 1) y' (by simpa using hm) B' (by rw [show n + (m + 1) = n + 1 + m by omega]; exact BE)) ?_; have := gr.set _ _ _ _ _ _ hx hr hv H7; refine gr.mono _ _ _ (fun c _ hc => ?_) _ _ this; obtain ⟨⟨y', Nc, e'⟩, fp⟩ := hc; rcases List.mem_cons.1 Nc with rfl | Nc
         · exact absurd e'.symm (by omega)
         · exact ⟨y', Nc, e'⟩
theorem KP {w0 : World} {mu : Mu} {c c1 c5 : Cz} {st fB aP : St} {a2 : Act} {w w' : World} {x : Dr} {A : fT} {l : List Dr} {gg : Nat → List Nat} {b o cap : Nat} (fp : x.a ≠ st.length - 1) (F9 : aQ st x.a x.j x.g = some A) (fh : A.own = true) (vu : A.md = .dp)
   (hA : bz c w x.a x.j A) (Ja : C2 (l.map (·.k)) = true) (BM : OO c c1 st w x A l gg b o cap) (h5 : Rel w0 mu c5 fB a2 w') (fw : Fw c1 (ea st x A l) w c5 fB w')
   (JX : ∀ k, c1.own k = some (.sp x.a x.j) → w'.heap[k]? = w.heap[k]? ∧ c5.own k = some (.sp x.a x.j))
   (hv : (F0 (st.length - 1) (ml st (st.length - 1) + 1) x A l fB).val = some aP) : ∃ c6, Rel w0 mu c6 aP a2 w' := by
 unfold F0 at hv
 cases hH : aQ fB x.a x.j x.g with
 | none => rw [hH] at hv; cases hv
 | some H =>
   rw [hH] at hv; simp only at hv; obtain ⟨_, hv⟩ := dQ hv
   cases hz : A.xs[x.i]? with
   | none => rw [hz] at hv; cases hv
   | some z =>
     rw [hz] at hv; have hv : (match ri fB (st.length - 1) (ml st (st.length - 1) + 1) A.r 0 l z with
       | some z' => N.done (bl (kK (fun s => { s with aI := [], ep := s.ep + 1 }) fB (st.length - 1)) x.a x.j (some (A.put (A.xs.set x.i z'))))
       | none => .fail).val = some aP := hv
     cases hj : ri fB (st.length - 1) (ml st (st.length - 1) + 1) A.r 0 l z with
     | none => rw [hj] at hv; cases hv
     | some z' =>
       rw [hj] at hv; simp only [N.val, Option.some.injEq] at hv; subst hv; obtain ⟨P, hP⟩ : ∃ P, P = st.length - 1 := ⟨_, rfl⟩; rw [← hP] at fp hj ⊢; have Kr := fp; rw [hP] at Kr; have xg := tG (A := A) (l := l) Kr; rw [← hP] at xg; obtain ⟨sla, OR, ha2, TY⟩ := a7 F9; have XX : x.g ≤ cD (ea st x A l) x.a := by
         unfold cD; rw [xg, if_neg fp, if_pos rfl, OR]; show x.g ≤ sla.ag; omega
       have YF : ∀ B0, aQ (ea st x A l) x.a x.j x.g = some B0 → B0.r.width = A.r.width ∧ B0.xs.length = A.xs.length := by
         intro B0 hB0; obtain ⟨sl, k1, k2, k3⟩ := a7 hB0; rw [xg, if_neg fp, if_pos rfl, OR] at k1; simp only [Option.map_some, Option.some.injEq] at k1; subst k1; simp only at k3; rw [cK, if_pos rfl, TY] at k3; simp only [Option.map_some, Option.some.injEq] at k3; subst k3; exact ⟨rfl, rfl⟩
       obtain ⟨B0, q1, q2, q3, q4, _⟩ := fw.refs x.a x.j x.g H XX hH; obtain ⟨e1, e2⟩ := YF B0 q1; have YG : c5.lc x.a x.j = .at b o cap := q4.trans BM.lc1; have hPs : ∀ n B, aQ fB P n (ml st P + 1) = some B → ∃ y, l[n]? = some y ∧ B.xs.length = y.ys.length ∧ B.r.width = y.q.width ∧ c5.lc P n = c1.lc P n := by
         intro n B hB; have YD : ml st P + 1 ≤ cD (ea st x A l) P := by
           unfold cD; rw [xg, if_pos rfl]; have Qr : P < st.length := by have := C3 OR; omega
           have : nth st P = some st[P] := by rw [ff]; exact List.getElem?_eq_getElem Qr
           rw [this]; unfold ml; rw [this]; exact Nat.le_refl _
         obtain ⟨B1, r1, r2, r3, r4, _⟩ := fw.refs P n _ B YD hB; obtain ⟨sl, k1, k2, k3⟩ := a7 r1; rw [xg, if_pos rfl] at k1; obtain ⟨zz, Qs, rfl⟩ := Option.map_eq_some_iff.1 k1; simp only at k3; rw [ff, List.getElem?_map] at k3
         cases hy : l[n]? with
         | none => rw [hy] at k3; cases k3
         | some y =>
           rw [hy] at k3; simp only [Option.map_some, Option.some.injEq] at k3; subst k3; exact ⟨y, rfl, r3, r2, r4⟩
       have hG : ∃ G : Nat → Nat → List Nat, ∀ n B y, aQ fB P n (ml st P + 1) = some B → B.own = true → B.md = B.r.md → l[n]? = some y → ∀ v, v.oneCell' = true → gN (c5.lc P n) B.r.width 0 B.xs.length v →
           ∀ (PP : List Nat → Nat → Prop) (p : List Nat), (∀ k, c5.own k = some (.sp P n) → PP (p ++ G n k) k) → cE w' PP (.sl B.r) p v B.xs := by
         have : ∀ n, ∃ G : Nat → List Nat, ∀ B y, aQ fB P n (ml st P + 1) = some B → B.own = true → B.md = B.r.md → l[n]? = some y → ∀ v, v.oneCell' = true → gN (c5.lc P n) B.r.width 0 B.xs.length v →
           ∀ (PP : List Nat → Nat → Prop) (p : List Nat), (∀ k, c5.own k = some (.sp P n) → PP (p ++ G k) k) → cE w' PP (.sl B.r) p v B.xs := by
           intro n
           by_cases e : ∃ B, aQ fB P n (ml st P + 1) = some B ∧ B.own = true ∧ B.md = B.r.md
           · obtain ⟨B, hB, ho, hm⟩ := e
             by_cases e2 : ∃ v : Value, v.oneCell' = true ∧ gN (c5.lc P n) B.r.width 0 B.xs.length v
             · obtain ⟨v, zB, Gn⟩ := e2; obtain ⟨g, hg⟩ := Km (h5.qE hB) ho hm; refine ⟨g, fun B' y BE _ _ _ v' h1 h2 PP p hP' => ?_⟩; rw [hB] at BE
               cases BE
               exact hg v' h1 h2 PP p hP'
             · refine ⟨fun _ => [], fun B' y BE _ _ _ v' h1 h2 => ?_⟩; rw [hB] at BE
               cases BE
               exact absurd ⟨v', h1, h2⟩ e2
           · exact ⟨fun _ => [], fun B' y BE h1 h2 => absurd ⟨B', BE, h1, h2⟩ e⟩
         obtain ⟨G, hG⟩ := Classical.axiomOfChoice this; exact ⟨G, fun n => hG n⟩
       obtain ⟨G, hG⟩ := hG; have NH : ∃ g6 : Nat → List Nat, (∀ k, c5.own k = some (.sp x.a x.j) → g6 k = gg k) ∧ ∀ n y k, l[n]? = some y → c5.own k = some (.sp P n) → g6 k = [x.i] ++ [y.k] ++ G n k := by
         have key : ∀ k, ∃ q : List Nat, (c5.own k = some (.sp x.a x.j) → q = gg k) ∧ ∀ n y, l[n]? = some y → c5.own k = some (.sp P n) → q = [x.i] ++ [y.k] ++ G n k := by
           intro k
           by_cases e : ∃ n y, l[n]? = some y ∧ c5.own k = some (.sp P n)
           · obtain ⟨n, y, f1, f2⟩ := e; refine ⟨[x.i] ++ [y.k] ++ G n k, fun h => ?_, fun n' y' h1 h2 => ?_⟩
             · rw [f2] at h; injection h with h; injection h with h _; exact absurd h.symm fp
             · rw [f2] at h2; injection h2 with h2; injection h2 with _ h2; subst h2; rw [f1] at h1
               cases h1
               rfl
           · exact ⟨gg k, fun _ => rfl, fun n y h1 h2 => absurd ⟨n, y, h1, h2⟩ e⟩
         obtain ⟨g6, h⟩ := Classical.axiomOfChoice key; exact ⟨g6, fun k => (h k).1, fun n y k => (h k).2 n y⟩
       obtain ⟨g6, Qt, YH⟩ := NH; obtain ⟨pI, adZ⟩ := h5.clear P; have Kp : ∀ n ∈ (List.range l.length).map (fun n => (P, n)), ∀ sl B, nth (kK (fun s => { s with aI := [], ep := s.ep + 1 }) fB P) n.1 = some sl → nth sl.aI n.2 ≠ some (some B) := by
         intro n hn sl B hs; obtain ⟨m, _, rfl⟩ := List.mem_map.1 hn; rw [cK, if_pos rfl] at hs; obtain ⟨zz, _, rfl⟩ := Option.map_eq_some_iff.1 hs; simp [nth]
       have hrl := pI.iR Kp x.a x.j; have wU : ∀ n y, l[n]? = some y → (P, n) ∈ (List.range l.length).map (fun n => (P, n)) := fun n y hn => List.mem_map.2 ⟨n, List.mem_range.2 (List.getElem?_eq_some_iff.1 hn).1, rfl⟩
       have KQ : ∀ k, c5.own k = some (.sp x.a x.j) → (c5.iR ((List.range l.length).map (fun n => (P, n))) (.sp x.a x.j)).own k = some (.sp x.a x.j) := by
         intro k hk; rw [Cz.ou]
         · exact hk
         · intro n hn e; obtain ⟨m, _, rfl⟩ := List.mem_map.1 hn; rw [hk] at e; injection e with e; injection e with e _; exact fp e
       have hH' : aQ (kK (fun s => { s with aI := [], ep := s.ep + 1 }) fB P) x.a x.j x.g = some H := by
         obtain ⟨sl, k1, k2, k3⟩ := a7 hH; exact ma (by rw [cK, if_neg fp]; exact k1) k2 k3
       have Ng : c1.own b = some (.sp x.a x.j) := BM.stay b BM.own (fun y _ q e => by rw [BM.g0] at e; cases e); obtain ⟨T3, hb5⟩ := JX b Ng; have Ko : ∀ (i : Nat) zz, (A.xs.set x.i z')[i]? = some zz → fE w' (fun p k => (c5.iR ((List.range l.length).map (fun n => (P, n))) (.sp x.a x.j)).own k = some (.sp x.a x.j) ∧ g6 k = p) A.r [i] 0 b (o + i * A.r.width) zz := by
         intro i zz Qs; rw [List.getElem?_set] at Qs
         by_cases e : x.i = i
         · subst e; rw [if_pos rfl, if_pos BM.len] at Qs
           cases Qs
           obtain ⟨vs, r1, r2⟩ := (jM _ _ _ _ _ _).1 (BM.rows x.i z hz); have xU := dn.length _ _ _ _ _ r2; refine (jM _ _ _ _ _ _).2 ⟨vs, fun k v hkv => by rw [World.cell?_of_block (w := w) T3]; exact r1 k v hkv, ?_⟩; refine Aw 0 l z hj (fun m y hm B hB TC Qe hBr => ?_) ?_
           · rw [Nat.zero_add] at hB; obtain ⟨v, u1, u2, u3, u4⟩ := BM.out m y hm; obtain ⟨y', f1, f2, f3, f4⟩ := hPs m B hB; rw [hm] at f1
             cases f1
             have hk : y.k < vs.length := by rw [xU]; exact u4
             have hvk : vs[y.k]? = some vs[y.k] := List.getElem?_eq_getElem hk; have := r1 y.k _ hvk; rw [u1] at this; refine ⟨v, by rw [hvk, ← Option.some.inj this], ?_⟩; refine hG m B y hB TC (by rw [Qe, hBr]) hm v u2 (by rw [f4, f2, f3, hP]; exact u3) _ _ (fun k hk => ⟨Cz.mn (wU m y hm) hk, ?_⟩); exact YH m y k hm hk
           · refine gr.of _ [x.i] (fun k q kb hK hk => ?_) 0 vs z r2; have qm := BM.stay kb hk.1 (fun y hy q' e => hK ⟨y, hy, by
               have h2 := hk.2; rw [e] at h2; simp at h2; exact h2.1⟩)
             obtain ⟨f1, f2⟩ := JX kb qm; exact ⟨f1, KQ kb f2, by rw [Qt kb f2]; exact hk.2⟩
         · rw [if_neg e] at Qs; refine fE.go _ [i] [i] (fun q kb hk => ?_) _ _ _ zz T3 (BM.rows i zz Qs); have qm := BM.stay kb hk.1 (fun y _ q' e' => e (by
             have h2 := hk.2; rw [e'] at h2; simp at h2; exact h2.1))
           obtain ⟨f1, f2⟩ := JX kb qm; exact ⟨f1, KQ kb f2, by rw [Qt kb f2]; exact hk.2⟩
       refine ⟨_, hrl.swap hH' (B := A.put (A.xs.set x.i z')) (by rw [q2, e1]; rfl) (by rw [q3, e2]; show (A.xs.set x.i z').length = _; simp) ?_⟩; unfold bz at hA ⊢; show match c5.lc x.a x.j with | .nil => _ | .at b off cap => _
       rw [YG]; rw [BM.lc] at hA; obtain ⟨_, g2, ⟨cur, ty, g3, g4⟩, _⟩ := hA; refine ⟨?_, by show (A.xs.set x.i z').length ≤ cap; simpa using g2, ⟨cur, ty, by rw [T3]; exact g3, g4⟩, ?_⟩
       · show match A.own with | true => _ | false => _
         rw [fh]; exact KQ b hb5
       · unfold bj; show match A.md with | .sh => _ | .dp => _ | .ho => True
         rw [vu]; exact ⟨g6, by rw [Qt b hb5]; exact BM.g0, Ko⟩
theorem H8 {α β : Type} (f : α → β) : (l : List α) → (n : Nat) → nth (l.map f) n = (nth l n).map f
 | [], _ => rfl
 | _ :: _, 0 => rfl
 | _ :: l, n + 1 => H8 f l n
theorem mw (st : St) (s : Nat) : nth (rj st) s = (nth st s).map (OG st) := H8 _ _ _
theorem Cn (st : St) (a j g : Nat) : aQ (rj st) a j g = aQ st a j g := by
 unfold aQ; rw [mw]
 cases nth st a <;> rfl
theorem Co (st : St) (a : Nat) : cD (rj st) a = cD st a := by
 unfold cD; rw [mw]
 cases nth st a <;> rfl
theorem Cp (st : St) (a : Nat) : fD (rj st) a = fD st a := by
 unfold fD; rw [mw]
 cases nth st a <;> rfl
theorem KR (st : St) (a : Nat) : kQ (rj st) a = kQ st a := by
 unfold kQ; rw [mw]
 cases nth st a <;> rfl
theorem Cq (st : St) (b g : Nat) : cV (rj st) b g = (cV st b g).map fun cs => cs.map (yw st) := by
 unfold cV; rw [mw]
 cases nth st b with
 | none => rfl
 | some x =>
   show (bif Nat.beq x.bg g then x.box.map _ else none) = _; simp only
   cases Nat.beq x.bg g <;> rfl
theorem Fw.rj (c : Cz) (st : St) (w : World) : Fw c st w c (rj st) w where
 stays := gG.refl w _
 refs a j g A' _ dI := by
   rw [Cn] at dI; exact ⟨A', dI, rfl, rfl, rfl, fun _ => ⟨rfl, fun _ _ _ _ => rfl⟩⟩
 zy b g lA _ h := by
   rw [Cq] at h; obtain ⟨cs, h1, _⟩ := Option.map_eq_some_iff.1 h; exact ⟨⟨cs, h1⟩, rfl⟩
 gA a := by rw [Co]; exact Nat.le_refl _
 gB a := by rw [Cp]; exact Nat.le_refl _
 gE a := by rw [KR]; exact Nat.le_refl _
theorem EF {w0 : World} {mu : Mu} {c : Cz} {st : St} {a : Act} {w : World} (h : Rel w0 mu c st a w) {x : CV} {v : Value} (hr : im c st w x v) : im c st w (yw st x) v := by
 unfold yw
 split
 · split
   · rename_i A hA
     cases ho : A.own with
     | true => exact hr
     | false =>
       cases hm : A.md.is .sh with
       | false => exact hr
       | true =>
         have hm := Md.kS.1 hm; exact wK (h.qE hA) (hr.2.2 A hA) (ok := c.ok) (fun b h => h) (fun b q => by
           rcases q with q | q
           · rw [ho] at q; cases q
           · rw [hm] at q; cases q) (by rw [hm]; intro e; cases e)
   · exact hr
 · exact hr
theorem EG {w0 : World} {mu : Mu} {c : Cz} {st : St} {a : Act} {w : World} (h : Rel w0 mu c st a w) {cs : List CV} {vs : List Value} (hr : ei c st w cs vs) : ei c (rj st) w (cs.map (yw st)) vs := by
 refine ⟨by rw [List.length_map]; exact hr.1, fun i x v h1 h2 => ?_⟩; rw [List.getElem?_map] at h1; obtain ⟨y, hy, rfl⟩ := Option.map_eq_some_iff.1 h1; exact (Fw.rj c st w).Kg (EF h (hr.2 i y v hy h2))
theorem KS {w0 : World} {mu : Mu} {c : Cz} {st : St} {a : Act} {w : World} (h : Rel w0 mu c st a w) {x : V} {v : Value} (hr : dS c st w x v) : dS c (rj st) w (Ke st x) v := by
 cases x with
 | one x => exact (Fw.rj c st w).Kg (EF h hr)
 | agg cs =>
   obtain ⟨vs, h1, h2⟩ := hr; exact ⟨vs, h1, EG h h2⟩
 | kR us => exact (Fw.rj c st w).lB hr
theorem Rel.rj {w0 : World} {mu : Mu} {c : Cz} {st : St} {a : Act} {w : World} (h : Rel w0 mu c st a w) : Rel w0 mu c (rj st) a w where
 eL t := by
   have e : bI (Go.TM.rj st) t = Ke st (bI st t) := by
     unfold bI; rw [mw]
     cases nth st t <;> rfl
   rw [e]; exact KS h (h.eL t)
 boxes s sl cs hs hb := by
   rw [mw] at hs; obtain ⟨x, hx, rfl⟩ := Option.map_eq_some_iff.1 hs; have hb : x.box.map (fun cs => cs.map (yw st)) = some cs := hb; obtain ⟨JW, hc, rfl⟩ := Option.map_eq_some_iff.1 hb; obtain ⟨k1, vs, ty, k2, k3⟩ := h.boxes s x JW hx hc; exact ⟨k1, vs, ty, k2, EG h k3⟩
 aI s j sl A hs hb := by
   rw [mw] at hs; obtain ⟨x, hx, rfl⟩ := Option.map_eq_some_iff.1 hs; exact h.aI s j x A hx hb
 owned := h.owned
 free := h.free
 kept := h.kept
 old := h.old
 plain := h.plain
 dH p hp := by
   have h0 := h.dH p hp
   cases p with
   | arr a j g W n l =>
     refine ⟨by rw [Co]; exact h0.1, fun A hA => ?_⟩; rw [Cn] at hA; exact h0.2 A hA
   | box b g lH =>
     refine ⟨by rw [Cp]; exact h0.1, fun cs th => ?_⟩; rw [Cq] at th; obtain ⟨JW, hc, _⟩ := Option.map_eq_some_iff.1 th; exact h0.2 JW hc
theorem EH {w0 : World} {mu : Mu} {c : Cz} {st : St} {a : Act} {w : World} (ms : List (Pm × V)) (h : Rel w0 mu c st a w) : Rel w0 mu c (yx ms st) a w ∧ ∀ x v, dS c st w x v → dS c (yx ms st) w x v := by
 unfold yx
 cases ms.any (fun m => m.1.Kf)
 · exact ⟨h, fun _ _ hr => hr⟩
 · exact ⟨h.rj, fun _ _ hr => (Fw.rj c st w).lB hr⟩
theorem EI {P : Program} {S : il} (hS : km P S) {w0 : World} {mu : Mu} {c : Cz} {st aP : St} {a : Act} {w : World} (h : Rel w0 mu c st a w) {o : Oper} {f : FuncId} {vals : Array Value} {xs : List V}
   (mo : ∀ fn, P.funcs[f]? = some fn → fn.name ≠ "runtime.NumGoroutine" → fn.body ≠ none → (execOp a.eval o).run P w = .ok (.enter f vals) w)
   (HS : xs.length = vals.toList.length) (T4 : ∀ (k : Nat) (m : V) (x : Value), xs[k]? = some m → vals.toList[k]? = some x → dS c st w m x)
   (hv : (B8 S st o.dst f xs).val = some aP) (hd : ∀ k, o.dst = some k → k < a.tmps.size) : ve P w0 mu aP o a w (ot S st f xs) := by
 unfold ot; unfold B8 at hv
 cases hf : S f with
 | none => simp [hf, N.val] at hv
 | some p =>
   obtain ⟨m1, m2, m3, yv⟩ := p; simp only [hf] at hv ⊢; obtain ⟨I6, fn, KT, YI, T5⟩ := hS f m1 m2 m3 yv hf; have mo := mo fn KT (by simpa using YI) (by intro e; rw [e] at T5; cases T5); have Qu := I5 m1 m2 m3 xs; generalize sJ m1 m2 m3 xs = ms at hv Qu ⊢; have hlen : ms.length = vals.toList.length := by
     have := congrArg List.length Qu; rw [List.length_map] at this; omega
   have tE : ∀ (k : Nat) (m : Pm × V) (x : Value), ms[k]? = some m → vals.toList[k]? = some x → dS c st w m.2 x := by
     intro k m x hm hx; have h1 : (ms.map (·.2))[k]? = some m.2 := by rw [List.getElem?_map, hm]; rfl
     rw [Qu] at h1; exact T4 k m.2 x h1 hx
   have hR := h.freeze (zO st ms); have yO : ∀ (k : Nat) (m : Pm × V) (x : Value), ms[k]? = some m → vals.toList[k]? = some x → dS (c.drop (zO st ms)) (freeze st (zO st ms)) w m.2 x := fun k m x h1 h2 => (Fw.freeze w _ c st).lB (tE k m x h1 h2)
   generalize freeze st (zO st ms) = T6 at hv hR yO ⊢; generalize c.drop (zO st ms) = c0 at hR yO; have yO : ∀ (k : Nat) (m : Pm × V) (x : Value), ms[k]? = some m → vals.toList[k]? = some x → dS c0 (yx ms T6) w m.2 x := fun k m x h1 h2 => (EH ms hR).2 _ _ (yO k m x h1 h2)
   have hR := (EH ms hR).1; generalize yx ms T6 = tD at hv hR yO ⊢; unfold OF at hv
   cases BJ : rh tD ms with
   | none =>
     rw [BJ] at hv; exact EA hR mo I6 hlen yO hv hd (fun h => h) (fun c5 fB a2 w' hr _ _ I7 => by
       simp only [N.val, Option.some.injEq] at I7; subst I7; exact ⟨c5, hr⟩)
   | some p =>
     obtain ⟨x, A, l⟩ := p; rw [BJ] at hv; simp only at hv ⊢; have T7 : ∀ m ∈ ms, ∃ v, dS c0 tD w m.2 v := by
       intro m hm; obtain ⟨k, hk⟩ := List.mem_iff_getElem?.1 hm; have bP : k < vals.toList.length := by rw [← hlen]; exact (List.getElem?_eq_some_iff.1 hk).1
       exact ⟨_, yO k m _ hk (List.getElem?_eq_getElem bP)⟩
     obtain ⟨c1, gg, b, oo, cap, hR1, hF1, BM, KU⟩ := xf hR BJ T7; obtain ⟨hl, hA, fh, vu, hep, oS, Ja, fp⟩ := xe BJ; refine EA hR1 mo I6 (by rw [List.length_map]; exact hlen) (fun k m v h1 h2 => ?_) hv hd (fun h => by cases h) (fun c5 fB a2 w' hr hf JX I7 => ?_)
     · rw [List.getElem?_map] at h1; obtain ⟨m0, hm0, rfl⟩ := Option.map_eq_some_iff.1 h1; exact KU m0 (List.mem_of_getElem? hm0) v (yO k m0 v hm0 h2)
     · refine KP fp hA fh vu (hR.qE hA) Ja BM hr hf (fun k hk => ?_) I7; have Jb : ¬ tF (ea tD x A l) (x.a, x.j) := by
         rintro ⟨g', B, hB, Qe⟩
         obtain ⟨sl, k1, k2, k3⟩ := a7 hB; rw [tG fp, if_neg fp, if_pos rfl] at k1; obtain ⟨zz, Qs, rfl⟩ := Option.map_eq_some_iff.1 k1; simp only at k3; rw [cK, if_pos rfl] at k3
         cases hq : nth zz.aI x.j with
         | none => rw [hq] at k3; cases k3
         | some B2 =>
           rw [hq] at k3; simp only [Option.map_some, Option.some.injEq] at k3; subst k3; exact Qe rfl
       cases hex : gm (ea tD x A l) (ms.map (PW (tD.length - 1) (ml tD (tD.length - 1) + 1) l)) with
       | none =>
         unfold D3 at hv; rw [hex] at hv
         cases hv
       | some pp =>
         obtain ⟨cM, u, q, r⟩ := pp; obtain ⟨l1, l2⟩ := yM _ hex; exact JX cM u q r hex k _ rfl (fun hm => Jb (l1 _ _ hm)) (fun p hp e => by
           injection e with e1 e2; exact Jb (by rw [e1, e2]; exact l2 p hp)) hk
theorem KV {P : Program} {S : il} (hS : km P S) {w0 : World} {mu : Mu} {c : Cz} {st aP : St} {a : Act} {w : World} (h : Rel w0 mu c st a w) {o : Oper} {f : FuncId} {args : Array Operand} {Nd : Array TypeId} (ho : o.op = .call { callee := .value (.func f), args := args, argTypes := Nd })
   (hv : (B8 S st o.dst f (args.toList.map (kL st))).val = some aP) (hd : ∀ k, o.dst = some k → k < a.tmps.size) : ve P w0 mu aP o a w (kindOk S st o .one) := by
 have YJ : kindOk S st o .one = ot S st f (args.toList.map (kL st)) := by unfold kindOk; simp only [ho]
 rw [YJ]; refine EI (vals := args.map a.eval) hS h (fun fn KT q2 q3 => ?_) (by simp) (fun k m x hm hx => ?_) hv hd
 · simp only [execOp, ho]; simp [resolve, Act.eval, Deferred.ofValue, invoke, callFunc, Sem.run_bind, KT, q2, q3]
 · rw [List.getElem?_map] at hm; rw [Array.toList_map, List.getElem?_map] at hx
   cases hy : args.toList[k]? with
   | none => rw [hy] at hm; simp at hm
   | some y =>
     rw [hy] at hm hx; simp only [Option.map_some, Option.some.injEq] at hm hx; rw [← hm, ← hx]; exact bh h y
theorem KW {P : Program} {S : il} (hS : km P S) {w0 : World} {mu : Mu} {c : Cz} {st aP : St} {a : Act} {w : World} (h : Rel w0 mu c st a w) {o : Oper} {t g : Nat} {rs : RT} {xs : List (ak rs)} {x : ak rs} {args : Array Operand} {Nd : Array TypeId} (ho : o.op = .call { callee := .value (.tmp t), args := args, argTypes := Nd })
   (ht : bI st t = .one (.fn g rs xs)) (Kj : xs[0]? = some x) (hv : (B8 S st o.dst g (args.toList.map (kL st) ++ sK rs x)).val = some aP) (hd : ∀ k, o.dst = some k → k < a.tmps.size) : ve P w0 mu aP o a w (kindOk S st o .one) := by
 have YJ : kindOk S st o .one = ot S st g (args.toList.map (kL st) ++ sK rs x) := by unfold kindOk; simp only [ho, ht, Kj]
 rw [YJ]; have I6 := h.eL t; rw [ht] at I6; obtain ⟨uO, e, T8⟩ := I6; obtain ⟨k1, k2⟩ := Ej (st := st) rs uO.toList x (T8 x Kj); refine EI (vals := args.map a.eval ++ uO) hS h (fun fn KT q2 q3 => ?_) (by simp [k1]) (fun k m y hm hy => ?_) hv hd
 · simp only [execOp, ho]; simp [resolve, e, Deferred.ofValue, invoke, callFunc, Sem.run_bind, KT, q2, q3]
 · rw [Array.toList_append] at hy
   by_cases hk : k < args.size
   · rw [List.getElem?_append_left (by simpa using hk)] at hm hy; rw [List.getElem?_map] at hm; rw [Array.toList_map, List.getElem?_map] at hy
     cases hz : args.toList[k]? with
     | none => rw [hz] at hm; simp at hm
     | some z =>
       rw [hz] at hm hy; simp only [Option.map_some, Option.some.injEq] at hm hy; rw [← hm, ← hy]; exact bh h z
   · rw [List.getElem?_append_right (by simp; omega)] at hm hy; simp only [List.length_map, Array.length_toList, Array.toList_map] at hm hy; exact k2 _ m y hm hy
theorem nU {P : Program} {T : jq} (hT : fq P T) (hE : uP P T) {S : il} (hS : km P S) (w0 : World) (mu : Mu) (n : Nat) : p8 P T S w0 mu n := by
 intro c st aP a w o h hn hd hv; have H7 : ∀ k, o.dst = some k → k < a.tmps.size := fun k hk => by rw [hn]; exact hd k hk
 by_cases hf : Op.Gj o.op = true
 · cases ho : o.op with
   | call cl =>
     obtain ⟨callee, args, Nd⟩ := cl
     cases callee with
     | value x =>
       cases x with
       | func f =>
         unfold HO at hv; simp only [ho] at hv; exact KV hS h ho hv H7
       | tmp t =>
         unfold HO at hv; simp only [ho] at hv
         split at hv
         · rename_i g rs xs ht
           cases Kj : xs[0]? with
           | none => simp [Kj, N.val] at hv
           | some x =>
             simp only [Kj] at hv; exact KW hS h ho ht Kj hv H7
         · simp [N.val] at hv
       | _ => rw [ho] at hf; simp [Op.Gj] at hf
     | _ => rw [ho] at hf; simp [Op.Gj] at hf
   | _ => rw [ho] at hf; simp [Op.Gj] at hf
 · exact Qj hT hE h (by simpa using hf) hv H7
end Go.TM
namespace Go.TM
open Go Go.RowKit
inductive OP where
 | int (k : IntKind)
 | bool
 | str
 | own (r : RT) (d : Md := .sh)
 | shr (r : RT)
 | jY (r : RT)
 | fn (g : Nat) (rs : RT)
inductive AP where
 | val (agg : Bool) (ps : List OP)
 | io (r : RT) (d : Md := .sh)
 | box (CY : Bool) (ps : List OP)
 | bo (ps : List OP)
def OP.ty : OP → Ty
 | .int k => .int k
 | .bool => .bool
 | .str => .str
 | .own r _ => .sl r
 | .shr r => .sl r
 | .jY r => .sl r
 | .fn _ rs => .sl rs
def OP.lF : OP → Bool
 | .own _ _ => true
 | _ => false
def jP : List OP → RT → RT
 | [], t => t
 | p :: ps, t => .cons p.ty (jP ps t)
def AP.rt : AP → RT → RT
 | .val _ ps, t => jP ps t
 | .io r _, t => .cons (.sl r) t
 | .box _ ps, t => jP ps t
 | .bo ps, t => jP ps t
def ar : List (Option AP) → RT
 | [] => .nil
 | none :: l => ar l
 | some p :: l => p.rt (ar l)
def OP.ov : (p : OP) → den p.ty → OV
 | .int k, n => .int k n
 | .bool, b => .bool b
 | .str, s => .str s
 | .own r d, xs => .own { r := r, own := true, xs := xs, md := d }
 | .shr r, xs => .shr r xs
 | .jY r, xs => .jY r xs
 | .fn g rs, xs => .fn g rs xs
def cL : (ps : List OP) → (t : RT) → ak (jP ps t) → List OV × ak t
 | [], _, x => ([], x)
 | p :: ps, t, x => (p.ov x.1 :: (cL ps t x.2).1, (cL ps t x.2).2)
def AP.av : (p : AP) → (t : RT) → ak (p.rt t) → AV × ak t
 | .val agg ps, t, x => (.val agg (cL ps t x).1, (cL ps t x).2)
 | .io r d, _, x => (.io { r := r, own := true, xs := x.1, md := d }, x.2)
 | .box _ ps, t, x => (.box (cL ps t x).1, (cL ps t x).2)
 | .bo ps, t, x => (.bo (cL ps t x).1, (cL ps t x).2)
def bM : (l : List (Option AP)) → ak (ar l) → List (Option AV)
 | [], _ => []
 | none :: l, x => none :: bM l x
 | some p :: l, x => some (p.av (ar l) x).1 :: bM l (p.av (ar l) x).2
def oW : (p : OP) → OV → Option (den p.ty)
 | .int k, .int l n => if k = l then some n else none
 | .bool, .bool b => some b
 | .str, .str s => some s
 | .own r d, .own A => bif A.md.is d then bn r A.xs else none
 | .own _ _, .dg => some ([] : List _)
 | .shr r, .shr _ xs => bn r xs
 | .shr _, .dg => some ([] : List _)
 | .jY r, .jY _ xs => bn r xs
 | .fn g rs, .fn f _ xs => bif Nat.beq f g then bn rs xs else none
 | _, _ => none
def cB : (ps : List OP) → (t : RT) → List OV → ak t → Option (ak (jP ps t))
 | [], _, [], y => some y
 | p :: ps, t, o :: os, y => match oW p o, cB ps t os y with
   | some x, some z => some (x, z)
   | _, _ => none
 | _, _, _, _ => none
def Cr : (p : AP) → (t : RT) → AV → ak t → Option (ak (p.rt t))
 | .val true ps, t, .val true os, y => cB ps t os y
 | .val false ps, t, .val false os, y => cB ps t os y
 | .io r d, _, .io A, y => bif A.md.is d then (match bn r A.xs with
   | some xs => some (xs, y)
   | none => none) else none
 | .box _ ps, t, .box os, y => cB ps t os y
 | .bo ps, t, .bo os, y => cB ps t os y
 | _, _, _, _ => none
def ek : (l : List AP) → List AV → Option (ak (ar (l.map some)))
 | [], [] => some ()
 | p :: l, a :: as => match ek l as with
   | some y => Cr p (ar (l.map some)) a y
   | none => none
 | _, _ => none
def je (st : St) : (ps : List OP) → (t : RT) → List CV → ak t → Option (ak (jP ps t) × List (Option Lb) × List (Nat × Nat))
 | [], _, [], y => some (y, [], [])
 | p :: ps, t, c :: cs, y => match eR st p.lF c, je st ps t cs y with
   | some (o, u, r), some (z, us, rs) => match oW p o with
     | some x => some ((x, z), u :: us, r ++ rs)
     | none => none
   | _, _ => none
 | _, _, _, _ => none
def yP (st : St) (k : Nat) : (p : AP) → (t : RT) → V → ak t → Option (ak (p.rt t) × List Lb × List (Nat × Nat))
 | .val agg ps, t, v, y =>
   match agg, v with
   | true, .agg cs => (je st ps t cs y).map fun q => (q.1, bq q.2.1, q.2.2)
   | false, .one c => (je st ps t [c] y).map fun q => (q.1, bq q.2.1, q.2.2)
   | _, _ => none
 | .io r d, _, v, y =>
   match v with
   | .one (.ref a j g .full) => bif Nat.beq a k && (Nat.beq j 0 && Nat.beq g 1) then ((aQ st a j g).bind fun A => bif A.own && A.md.is d then (bn r A.xs).map fun xs => ((xs, y), [.sp a j], []) else none) else none
   | _ => none
 | .box CY ps, t, v, y =>
   match v with
   | .one (.ptr b g off) => bif Nat.beq off 0 && (!CY || (Nat.beq b k && Nat.beq g 1)) then ((cV st b g).bind fun cs => (je st ps t cs y).map fun q => (q.1, .box b :: bq q.2.1, q.2.2)) else none
   | _ => none
 | .bo _, _, _, _ => none
def kZ (st : St) : (k : Nat) → (l : List (Option AP)) → Option (ak (ar l) × List Lb × List (Nat × Nat))
 | _, [] => some ((), [], [])
 | k, none :: l => kZ st (k + 1) l
 | k, some p :: l => match kZ st (k + 1) l with
   | some (y, us, rs) => match yP st k p (ar l) (bI st k) y with
     | some (x, u, r) => some (x, u ++ us, r ++ rs)
     | none => none
   | none => none
def Sl.blank : Sl := { v := .one .bad, box := .none, bg := 1, aI := [], ag := 1 }
def ch (k : Nat) : Option AV → Sl
 | none => Sl.blank
 | some (.bo os) => { v := .agg (aU k 1 0 os), box := none, bg := 1, aI := aV os, ag := 1 }
 | some (.val true os) => { v := .agg (aU k 1 0 os), box := none, bg := 1, aI := aV os, ag := 1 }
 | some (.val false os) => { v := match aU k 1 0 os with | [c] => .one c | _ => .one .bad, box := none, bg := 1, aI := aV os, ag := 1 }
 | some (.io A) => { v := .one (.ref k 0 1 .full), box := none, bg := 1, aI := [some A], ag := 1 }
 | some (.box os) => { v := .one (.ptr k 1 0), box := some (aU k 1 0 os), bg := 1, aI := aV os, ag := 1 }
def lI : (k : Nat) → List (Option AV) → St
 | _, [] => []
 | k, a :: l => ch k a :: lI (k + 1) l
theorem Cs : (l : List (Option AV)) → (k i : Nat) → nth (lI k l) i = (l[i]?).map (ch (k + i))
 | [], _, _ => by simp [lI]
 | a :: l, k, 0 => by simp [lI, nth]
 | a :: l, k, i + 1 => by
   simp only [lI, nth, List.getElem?_cons_succ]; rw [Cs l (k + 1) i, show k + 1 + i = k + (i + 1) by omega]
theorem EJ {c : Cz} {w : World} {f : Nat → Lb} {j : Nat} : (p : OP) → (o : OV) → (x : den p.ty) → oW p o = some x → {os w6 : List OV} → {vs : List Value} → (∀ l, a8 c w f (j + 1) os l → a8 c w f (j + 1) w6 l) → a8 c w f j (o :: os) vs → a8 c w f j (p.ov x :: w6) vs
 | .int k, .int l n, x, hx, os, w6, vs, qn, h => by
   have hx : (if k = l then some (n : Int) else none) = some (x : Int) := hx
   by_cases e : k = l
   · rw [if_pos e] at hx; have hx : n = x := Option.some.inj hx; obtain ⟨l', h1, h2⟩ := h; exact ⟨l', by rw [h1, e, hx], qn _ h2⟩
   · rw [if_neg e] at hx
     cases hx
 | .bool, .bool b, x, hx, os, w6, vs, qn, h => by
   have hx : b = x := Option.some.inj hx; subst hx; obtain ⟨l', h1, h2⟩ := h; exact ⟨l', h1, qn _ h2⟩
 | .str, .str b, x, hx, os, w6, vs, qn, h => by
   have hx : b = x := Option.some.inj hx; subst hx; obtain ⟨l', h1, h2⟩ := h; exact ⟨l', h1, qn _ h2⟩
 | .own r d, .own A, x, hx, os, w6, vs, qn, h => by
   obtain ⟨v, l', h1, ⟨lc, h2⟩, h3⟩ := h; have hx : (bif A.md.is d then bn r A.xs else none) = some x := hx; obtain ⟨hd, hx⟩ := aD hx; have hd := Md.kS.1 hd; obtain ⟨e, rfl⟩ := aX hx; obtain ⟨r0, Gc, mV, Qf⟩ := A; simp only at e hd; subst e hd; have ho : Gc = true := h2.2.2.1; subst ho; exact ⟨v, l', h1, ⟨lc, h2⟩, qn _ h3⟩
 | .own r _, .dg, x, hx, os, w6, vs, qn, h => by
   have hx : ([] : List (ak r)) = x := Option.some.inj hx; subst hx; obtain ⟨l', h1, h2⟩ := h; exact ⟨_, l', h1, ⟨.nil, rfl, ⟨rfl, rfl⟩, rfl, rfl⟩, qn _ h2⟩
 | .shr r, .shr q xs, x, hx, os, w6, vs, qn, h => by
   obtain ⟨v, l', h1, h2, h3⟩ := h; have hx : bn r xs = some x := hx; obtain ⟨e, rfl⟩ := aX hx; subst e; exact ⟨v, l', h1, h2, qn _ h3⟩
 | .shr r, .dg, x, hx, os, w6, vs, qn, h => by
   have hx : ([] : List (ak r)) = x := Option.some.inj hx; subst hx; obtain ⟨l', h1, h2⟩ := h; exact ⟨_, l', h1, (lG _ _ _ _ _).2 (.inl ⟨rfl, rfl⟩), qn _ h2⟩
 | .jY r, .jY q xs, x, hx, os, w6, vs, qn, h => by
   obtain ⟨v, l', h1, h2, h3⟩ := h; have hx : bn r xs = some x := hx; obtain ⟨e, rfl⟩ := aX hx; subst e; exact ⟨v, l', h1, h2, qn _ h3⟩
 | .fn g r, .fn f q xs, x, hx, os, w6, vs, qn, h => by
   obtain ⟨v, l', h1, h2, h3⟩ := h; have hx : (bif Nat.beq f g then bn r xs else none) = some x := hx; obtain ⟨YK, hx⟩ := aD hx; have YK := Nat.eq_of_beq_eq_true YK; subst YK; obtain ⟨e, rfl⟩ := aX hx; subst e; exact ⟨v, l', h1, h2, qn _ h3⟩
 | .int _, .bool _, _, hx, _, _, _, _, _ => by cases hx
 | .int _, .str _, _, hx, _, _, _, _, _ => by cases hx
 | .int _, .own _, _, hx, _, _, _, _, _ => by cases hx
 | .int _, .shr _ _, _, hx, _, _, _, _, _ => by cases hx
 | .int _, .dg, _, hx, _, _, _, _, _ => by cases hx
 | .int _, .jY _ _, _, hx, _, _, _, _, _ => by cases hx
 | .int _, .fn _ _ _, _, hx, _, _, _, _, _ => by cases hx
 | .bool, .int _ _, _, hx, _, _, _, _, _ => by cases hx
 | .bool, .str _, _, hx, _, _, _, _, _ => by cases hx
 | .bool, .own _, _, hx, _, _, _, _, _ => by cases hx
 | .bool, .shr _ _, _, hx, _, _, _, _, _ => by cases hx
 | .bool, .dg, _, hx, _, _, _, _, _ => by cases hx
 | .bool, .jY _ _, _, hx, _, _, _, _, _ => by cases hx
 | .bool, .fn _ _ _, _, hx, _, _, _, _, _ => by cases hx
 | .str, .int _ _, _, hx, _, _, _, _, _ => by cases hx
 | .str, .bool _, _, hx, _, _, _, _, _ => by cases hx
 | .str, .own _, _, hx, _, _, _, _, _ => by cases hx
 | .str, .shr _ _, _, hx, _, _, _, _, _ => by cases hx
 | .str, .dg, _, hx, _, _, _, _, _ => by cases hx
 | .str, .jY _ _, _, hx, _, _, _, _, _ => by cases hx
 | .str, .fn _ _ _, _, hx, _, _, _, _, _ => by cases hx
 | .own _ _, .int _ _, _, hx, _, _, _, _, _ => by cases hx
 | .own _ _, .bool _, _, hx, _, _, _, _, _ => by cases hx
 | .own _ _, .str _, _, hx, _, _, _, _, _ => by cases hx
 | .own _ _, .shr _ _, _, hx, _, _, _, _, _ => by cases hx
 | .own _ _, .jY _ _, _, hx, _, _, _, _, _ => by cases hx
 | .own _ _, .fn _ _ _, _, hx, _, _, _, _, _ => by cases hx
 | .shr _, .int _ _, _, hx, _, _, _, _, _ => by cases hx
 | .shr _, .bool _, _, hx, _, _, _, _, _ => by cases hx
 | .shr _, .str _, _, hx, _, _, _, _, _ => by cases hx
 | .shr _, .own _, _, hx, _, _, _, _, _ => by cases hx
 | .shr _, .jY _ _, _, hx, _, _, _, _, _ => by cases hx
 | .shr _, .fn _ _ _, _, hx, _, _, _, _, _ => by cases hx
 | .jY _, .int _ _, _, hx, _, _, _, _, _ => by cases hx
 | .jY _, .bool _, _, hx, _, _, _, _, _ => by cases hx
 | .jY _, .str _, _, hx, _, _, _, _, _ => by cases hx
 | .jY _, .own _, _, hx, _, _, _, _, _ => by cases hx
 | .jY _, .shr _ _, _, hx, _, _, _, _, _ => by cases hx
 | .jY _, .dg, _, hx, _, _, _, _, _ => by cases hx
 | .jY _, .fn _ _ _, _, hx, _, _, _, _, _ => by cases hx
 | .fn _ _, .int _ _, _, hx, _, _, _, _, _ => by cases hx
 | .fn _ _, .bool _, _, hx, _, _, _, _, _ => by cases hx
 | .fn _ _, .str _, _, hx, _, _, _, _, _ => by cases hx
 | .fn _ _, .own _, _, hx, _, _, _, _, _ => by cases hx
 | .fn _ _, .shr _ _, _, hx, _, _, _, _, _ => by cases hx
 | .fn _ _, .dg, _, hx, _, _, _, _, _ => by cases hx
 | .fn _ _, .jY _ _, _, hx, _, _, _, _, _ => by cases hx
theorem qK {c : Cz} {w : World} {f : Nat → Lb} : (ps : List OP) → (t : RT) → (os : List OV) → (y : ak t) → {x : ak (jP ps t)} → cB ps t os y = some x → (cL ps t x).2 = y ∧ ∀ (j : Nat) (vs : List Value), a8 c w f j os vs → a8 c w f j (cL ps t x).1 vs
 | [], t, [], y, x, h => by
   have h : y = x := Option.some.inj h; subst h; exact ⟨rfl, fun _ _ h => h⟩
 | [], _, _ :: _, _, _, h => by simp [cB] at h
 | _ :: _, _, [], _, _, h => by simp [cB] at h
 | p :: ps, t, o :: os, y, x, h => by
   unfold cB at h
   cases h1 : oW p o with
   | none => simp [h1] at h
   | some a =>
     cases h2 : cB ps t os y with
     | none => simp [h1, h2] at h
     | some z =>
       simp only [h1, h2] at h; have h : (a, z) = x := Option.some.inj h; subst h; obtain ⟨g1, g2⟩ := qK (c := c) (w := w) (f := f) ps t os y h2; exact ⟨g1, fun j vs hh => EJ p o a h1 (fun l => g2 (j + 1) l) hh⟩
theorem a8.KX {c : Cz} {w : World} {f : Nat → Lb} : (os : List OV) → (j : Nat) → (vs : List Value) → a8 c w f j os vs → vs.length = os.length ∧ ∀ (k : Nat) (o : OV) (u : Value), os[k]? = some o → vs[k]? = some u → a8 c w f (j + k) [o] [u]
 | [], j, vs, h => by
   subst h; exact ⟨rfl, fun k o u h => by simp at h⟩
 | o :: os, j, vs, h => by
   obtain ⟨v, l, rfl, h1, h2⟩ : ∃ v l, vs = v :: l ∧ a8 c w f j [o] [v] ∧ a8 c w f (j + 1) os l := by
     cases o with
     | int k n => obtain ⟨l, h1, h2⟩ := h; exact ⟨_, l, h1, ⟨[], rfl, rfl⟩, h2⟩
     | bool b => obtain ⟨l, h1, h2⟩ := h; exact ⟨_, l, h1, ⟨[], rfl, rfl⟩, h2⟩
     | str b => obtain ⟨l, h1, h2⟩ := h; exact ⟨_, l, h1, ⟨[], rfl, rfl⟩, h2⟩
     | dg => obtain ⟨l, h1, h2⟩ := h; exact ⟨_, l, h1, ⟨[], rfl, rfl⟩, h2⟩
     | shr r xs => obtain ⟨v, l, h1, h2, h3⟩ := h; exact ⟨v, l, h1, ⟨v, [], rfl, h2, rfl⟩, h3⟩
     | jY r xs => obtain ⟨v, l, h1, h2, h3⟩ := h; exact ⟨v, l, h1, ⟨v, [], rfl, h2, rfl⟩, h3⟩
     | fn g r xs => obtain ⟨v, l, h1, h2, h3⟩ := h; exact ⟨v, l, h1, ⟨v, [], rfl, h2, rfl⟩, h3⟩
     | own A => obtain ⟨v, l, h1, h2, h3⟩ := h; exact ⟨v, l, h1, ⟨v, [], rfl, h2, rfl⟩, h3⟩
   obtain ⟨g1, g2⟩ := a8.KX os (j + 1) l h2; refine ⟨by simp [g1], fun k o' u ho hu => ?_⟩
   cases k with
   | zero =>
     simp only [List.getElem?_cons_zero, Option.some.injEq] at ho hu; subst ho hu; exact h1
   | succ k =>
     have := g2 k o' u (by simpa using ho) (by simpa using hu)
     rwa [show j + 1 + k = j + (k + 1) by omega] at this
theorem Ct : (ps : List OP) → (t : RT) → (os : List OV) → (y : ak t) → {x : ak (jP ps t)} → cB ps t os y = some x → ∀ (k : Nat) (o' : OV), (cL ps t x).1[k]? = some o' → ∃ (p : OP) (o : OV) (z : den p.ty), os[k]? = some o ∧ oW p o = some z ∧ o' = p.ov z
 | [], t, [], y, x, h => by
   intro k o' hk; simp [cL] at hk
 | [], _, _ :: _, _, _, h => by simp [cB] at h
 | _ :: _, _, [], _, _, h => by simp [cB] at h
 | p :: ps, t, o :: os, y, x, h => by
   unfold cB at h
   cases h1 : oW p o with
   | none => simp [h1] at h
   | some a =>
     cases h2 : cB ps t os y with
     | none => simp [h1, h2] at h
     | some z =>
       simp only [h1, h2] at h; have h : (a, z) = x := Option.some.inj h; subst h; intro k o' hk
       cases k with
       | zero =>
         have hk : some (p.ov a) = some o' := hk; simp only [Option.some.injEq] at hk; exact ⟨p, o, a, rfl, h1, hk.symm⟩
       | succ k =>
         have hk : (cL ps t z).1[k]? = some o' := hk; obtain ⟨p', o1, z', q1, q2, q3⟩ := Ct ps t os y h2 k o' hk; exact ⟨p', o1, z', by simpa using q1, q2, q3⟩
theorem Jc {p : OP} {o : OV} {z : den p.ty} (h : oW p o = some z) {A : fT} (he : p.ov z = .own A) : (∃ B, o = .own B ∧ A.r = B.r ∧ A.own = true ∧ A.xs.length = B.xs.length ∧ (B.own = true → A = B)) ∨ (o = .dg ∧ ∃ r d, A = { r := r, own := true, xs := ([] : List (ak r)), md := d }) := by
 cases p with
 | own r d =>
   injection he with he; subst he
   cases o with
   | own B =>
     have h : (bif B.md.is d then bn r B.xs else none) = some z := h; obtain ⟨hd, h⟩ := aD h; have hd := Md.kS.1 hd; obtain ⟨e, rfl⟩ := aX h; obtain ⟨r0, Gc, mV, Qf⟩ := B; simp only at e hd; subst e hd; exact .inl ⟨_, rfl, rfl, rfl, rfl, fun ho => by simp only at ho; subst ho; rfl⟩
   | dg =>
     have h : ([] : List (ak r)) = z := Option.some.inj h; subst h; exact .inr ⟨rfl, r, d, rfl⟩
   | _ => cases h
 | int _ => cases he
 | bool => cases he
 | str => cases he
 | shr _ => cases he
 | jY _ => cases he
 | fn _ _ => cases he
theorem EK {p : OP} (z : den p.ty) : p.ov z ≠ .dg := by
 cases p <;> (intro h; cases h)
theorem EL {c : Cz} {w : World} {i : Nat} {lc : Nat → Loc} {p : AP} {t : RT} {av : AV} {y : ak t} {x : ak (p.rt t)} (h : Cr p t av y = some x) : (p.av t x).2 = y ∧ ∀ v, p9 c w i lc av v → p9 c w i lc (p.av t x).1 v := by
 cases p with
 | val agg ps =>
   cases agg with
   | true =>
     cases av with
     | val NI os =>
       cases NI with
       | true =>
         have h : cB ps t os y = some x := h; obtain ⟨g1, g2⟩ := qK (c := c) (w := w) (f := .bA i) ps t os y h; exact ⟨g1, fun v ⟨vs, hv, hl⟩ => ⟨vs, hv, g2 0 _ hl⟩⟩
       | false => cases h
     | _ => cases h
   | false =>
     cases av with
     | val NI os =>
       cases NI with
       | false =>
         have h : cB ps t os y = some x := h; obtain ⟨g1, g2⟩ := qK (c := c) (w := w) (f := .bA i) ps t os y h; exact ⟨g1, fun v hl => g2 0 _ hl⟩
       | true => cases h
     | _ => cases h
 | io r d =>
   cases av with
   | io A =>
     have h : (bif A.md.is d then (match bn r A.xs with | some xs => some ((xs, y) : ak (.cons (.sl r) t)) | none => none) else none) = some x := h; obtain ⟨hd, h⟩ := aD h; have hd := Md.kS.1 hd
     cases hc : bn r A.xs with
     | none => rw [hc] at h; cases h
     | some xs =>
       rw [hc] at h
       cases h
       refine ⟨rfl, fun v hl => ?_⟩; obtain ⟨e, rfl⟩ := aX hc; obtain ⟨r0, Gc, mV, Qf⟩ := A; simp only at e hd; subst e hd; have ho : Gc = true := hl.2.2.1; subst ho; exact hl
   | _ => cases h
 | box CY ps =>
   cases av with
   | box os =>
     have h : cB ps t os y = some x := h; obtain ⟨g1, g2⟩ := qK (c := c) (w := w) (f := .bA i) ps t os y h; exact ⟨g1, fun v ⟨lH, vs, ty, q1, q2, q3, q4⟩ => ⟨lH, vs, ty, q1, q2, q3, g2 0 _ q4⟩⟩
   | _ => cases h
 | bo ps =>
   cases av with
   | bo os =>
     have h : cB ps t os y = some x := h; obtain ⟨g1, g2⟩ := qK (c := c) (w := w) (f := .bA i) ps t os y h; refine ⟨g1, fun v ⟨vs, q1, q2, q3⟩ => ⟨vs, q1, g2 0 _ q2, fun j o u ho hu => ?_⟩⟩; obtain ⟨p, o0, z, k1, k2, rfl⟩ := Ct ps t os y h j o ho; have h0 := q3 j o0 u k1 hu; have hL := (a8.KX os 0 _ q2).2 j o0 u k1 hu; unfold Kz at h0 ⊢
     cases he : p.ov z with
     | dg => exact absurd he (EK z)
     | own A =>
       rcases Jc k2 he with ⟨B, rfl, e1, e2, e3, e4⟩ | ⟨rfl, r, d, rfl⟩
       · have h0 : OwnAt c w (.bA i j) (lc j) B u := h0; have := e4 h0.2.2.1; subst this; exact h0
       · have h0 : lc j = .nil := h0; obtain ⟨l, hl, _⟩ := hL; injection hl with hl _; subst hl; show OwnAt c w (.bA i j) (lc j) _ _; rw [h0]; exact ⟨rfl, ⟨rfl, rfl⟩, rfl, rfl⟩
     | _ => trivial
   | _ => cases h
end Go.TM
namespace Go.TM
open Go Go.RowKit
theorem tH {w0 : World} {mu : Mu} {c : Cz} {st : St} {a : Act} {w : World} (h : Rel w0 mu c st a w) {ρ : Lb → Option Lb} {f : Nat → Lb} : (ps : List OP) → (t : RT) → (cs : List CV) → (y : ak t) → (vs : List Value) → (j : Nat) → ei c st w cs vs → {x : ak (jP ps t)} → {u : List (Option Lb)} → {r : List (Nat × Nat)} →
   je st ps t cs y = some (x, u, r) → (cL ps t x).2 = y ∧ (∀ l ∈ bq u, l.real = true) ∧ ((∀ k l, nth u k = some (some l) → ρ l = some (f (j + k))) → (∀ p ∈ r, ρ (.sp p.1 p.2) = none) → a8 (c.map ρ) w f j (cL ps t x).1 vs)
 | [], t, [], y, vs, j, hl, x, u, r, he => by
   have he : some (y, ([] : List (Option Lb)), ([] : List (Nat × Nat))) = some (x, u, r) := he; injection he with he; injection he with e1 e2; injection e2 with e2 e3; subst e1 e2 e3; have := hl.1; simp at this; exact ⟨rfl, by simp [bq], fun _ _ => List.length_eq_zero_iff.1 this.symm⟩
 | [], t, _ :: _, y, vs, j, hl, x, u, r, he => by simp [je] at he
 | _ :: _, t, [], y, vs, j, hl, x, u, r, he => by simp [je] at he
 | p :: ps, t, cx :: cs, y, vs, j, hl, x, u, r, he => by
   obtain ⟨v, l, rfl, hx, u6⟩ := hl.OK; unfold je at he
   cases hc : eR st p.lF cx with
   | none => simp [hc] at he
   | some q1 =>
     obtain ⟨o, u1, r1⟩ := q1
     cases hq : je st ps t cs y with
     | none => simp [hc, hq] at he
     | some q2 =>
       obtain ⟨z, us, rs⟩ := q2; simp only [hc, hq] at he
       cases ho : oW p o with
       | none => simp [ho] at he
       | some a1 =>
         simp only [ho] at he; injection he with he; injection he with e1 e2; injection e2 with e2 e3; subst e1 e2 e3; obtain ⟨g1, g2, g3⟩ := tH h (ρ := ρ) (f := f) ps t cs y l (j + 1) u6 hq; refine ⟨g1, fun l' hm => ?_, fun hu hr => ?_⟩
         · rw [fx] at hm; rcases List.mem_cons.1 hm with hm | hm
           · obtain ⟨s, k, rfl⟩ := Ch hc l' hm.symm; rfl
           · exact g2 l' (fx.2 hm)
         · have ey := g3 (fun k' l' hk => by
             have := hu (k' + 1) l' hk
             rwa [show j + (k' + 1) = j + 1 + k' by omega] at this) (fun p hp => hr p (List.mem_append_right _ hp))
           have h1 := H3 h (f := f) (j := j) hx hc (fun l' u6 => hu 0 l' (by rw [u6]; rfl)) (fun p hp => hr p (List.mem_append_left _ hp)) ey; exact EJ p o a1 ho (fun _ h => h) h1
def x8 (c : Cz) (w : World) (lc : Nat → Nat → Loc) (a : Act) (k : Nat) (l : List (Option AV)) : Prop :=
 ∀ i av, l[i]? = some (some av) → p9 c w (k + i) (lc (k + i)) av (a.eval (.tmp (k + i)))
theorem xh {w0 : World} {mu : Mu} {c : Cz} {st : St} {a : Act} {w : World} (h : Rel w0 mu c st a w) (k : Nat) {p : AP} {t : RT} {V : V} {y : ak t} {v : Value} (hV : dS c st w V v) {x : ak (p.rt t)} {u : List Lb} {r : List (Nat × Nat)} (he : yP st k p t V y = some (x, u, r)) :
   (p.av t x).2 = y ∧ (∀ l ∈ u, l.real = true) ∧ ∃ tb : List (Lb × Lb), tb.map (·.1) = u ∧ (∀ p ∈ tb, p.2.iM = true) ∧ ∀ ρ : Lb → Option Lb, (∀ p ∈ tb, ρ p.1 = some p.2) → (∀ p ∈ r, ρ (.sp p.1 p.2) = none) → p9 (c.map ρ) w k (c.lc k) (p.av t x).1 v := by
 have vals : ∀ (ps : List OP) (cs : List CV) (x : ak (jP ps t)) (us : List (Option Lb)) (rs : List (Nat × Nat)) (vs : List Value), ei c st w cs vs → je st ps t cs y = some (x, us, rs) → (cL ps t x).2 = y ∧ (∀ l ∈ bq us, l.real = true) ∧
     ∀ ρ : Lb → Option Lb, (∀ p ∈ w9 (.bA k) 0 us, ρ p.1 = some p.2) → (∀ p ∈ rs, ρ (.sp p.1 p.2) = none) → a8 (c.map ρ) w (.bA k) 0 (cL ps t x).1 vs := by
   intro ps cs x us rs vs hl hq; refine ⟨(tH h (ρ := fun _ => none) (f := .bA k) ps t cs y vs 0 hl hq).1, (tH h (ρ := fun _ => none) (f := .bA k) ps t cs y vs 0 hl hq).2.1, fun ρ hp hr => (tH h (ρ := ρ) (f := .bA k) ps t cs y vs 0 hl hq).2.2 (fun k' l hk => ?_) hr⟩; have := hp _ (tz (.bA k) 0 us k' l hk); simpa using this
 cases p with
 | val agg ps =>
   cases agg with
   | true =>
     cases V with
     | agg cs =>
       have he : (je st ps t cs y).map (fun q => (q.1, bq q.2.1, q.2.2)) = some (x, u, r) := he
       cases hq : je st ps t cs y with
       | none => rw [hq] at he; cases he
       | some q =>
         obtain ⟨z, us, rs⟩ := q; rw [hq] at he; injection he with he; injection he with e1 e2; injection e2 with e2 e3; subst e1 e2 e3; obtain ⟨vs, rfl, hl⟩ := hV; obtain ⟨g1, g2, g3⟩ := vals _ _ _ _ _ _ hl hq; exact ⟨g1, g2, hJ k (.val true []) [] us, ki _ _ _ _, kj _ _ _ _, fun ρ hp hr => ⟨vs, rfl, g3 ρ (fun p jd => hp p (by simpa [hJ] using jd)) hr⟩⟩
     | one _ => cases he
     | kR _ => cases he
   | false =>
     cases V with
     | one cx =>
       have he : (je st ps t [cx] y).map (fun q => (q.1, bq q.2.1, q.2.2)) = some (x, u, r) := he
       cases hq : je st ps t [cx] y with
       | none => rw [hq] at he; cases he
       | some q =>
         obtain ⟨z, us, rs⟩ := q; rw [hq] at he; injection he with he; injection he with e1 e2; injection e2 with e2 e3; subst e1 e2 e3; obtain ⟨g1, g2, g3⟩ := vals _ _ _ _ _ [v] ⟨rfl, fun k y z hy hz => by
           cases k with
           | zero => simp at hy hz; subst hy hz; exact hV
           | succ k => simp at hy⟩ hq
         exact ⟨g1, g2, hJ k (.val true []) [] us, ki _ _ _ _, kj _ _ _ _, fun ρ hp hr => g3 ρ (fun p jd => hp p (by simpa [hJ] using jd)) hr⟩
     | agg _ => cases he
     | kR _ => cases he
 | io rr d =>
   cases V with
   | one cx =>
     cases cx with
     | ref s j g vw =>
       cases vw with
       | full =>
         have he : (bif Nat.beq s k && (Nat.beq j 0 && Nat.beq g 1) then ((aQ st s j g).bind fun A => bif A.own && A.md.is d then (bn rr A.xs).map fun xs => ((xs, y), [Lb.sp s j], ([] : List (Nat × Nat))) else none) else none) = some (x, u, r) := he; obtain ⟨h1, uQ⟩ := aD he; clear he; rw [Bool.and_eq_true, Bool.and_eq_true] at h1; have e1 := Nat.eq_of_beq_eq_true h1.1; have e2 := Nat.eq_of_beq_eq_true h1.2.1; subst e1 e2
         cases hA : aQ st s 0 g with
         | none => rw [hA] at uQ; cases uQ
         | some A =>
           rw [hA] at uQ; obtain ⟨ho, SC⟩ := aD uQ; rw [Bool.and_eq_true] at ho; have hd := Md.kS.1 ho.2; have ho := ho.1
           cases hc : bn rr A.xs with
           | none => rw [hc] at SC; cases SC
           | some xs =>
             rw [hc] at SC; injection SC with SC; injection SC with e1 e2; injection e2 with e2 e3; subst e1 e2 e3; refine ⟨rfl, by simp [Lb.real], [(.sp s 0, .bA s 0)], rfl, by simp [Lb.iM], fun ρ hp _ => ?_⟩; have ha := uB h hA; have hs := hV.2.2 A hA; have hρ : ρ (.sp s 0) = some (.bA s 0) := hp (.sp s 0, .bA s 0) (by simp); obtain ⟨e, rfl⟩ := aX hc; obtain ⟨r0, Gc, mV, Qf⟩ := A; simp only at e hd; subst e hd; have ho : Gc = true := by first | exact ho | exact ho.1
             subst ho; refine ⟨hV.1, hs, rfl, ?_⟩; unfold bz at ha
             cases gn : c.lc s 0 with
             | nil => rw [gn] at ha; exact ha
             | «at» b off cap =>
               rw [gn] at ha; obtain ⟨h0, h2, h3, h4⟩ := ha; exact ⟨(Cz.iS h0).trans hρ, h2, h3, h4.map hρ⟩
       | «from» _ => cases he
       | sub _ _ => cases he
     | _ => cases he
   | agg _ => cases he
   | kR _ => cases he
 | box CY ps =>
   cases V with
   | one cx =>
     cases cx with
     | ptr b g off =>
       have he : (bif Nat.beq off 0 && (!CY || (Nat.beq b k && Nat.beq g 1)) then ((cV st b g).bind fun cs => (je st ps t cs y).map fun q => (q.1, Lb.box b :: bq q.2.1, q.2.2)) else none) = some (x, u, r) := he; obtain ⟨h1, uQ⟩ := aD he; clear he; rw [Bool.and_eq_true] at h1; have e1 := Nat.eq_of_beq_eq_true h1.1; subst e1
       cases hb : cV st b g with
       | none => rw [hb] at uQ; cases uQ
       | some cs =>
         rw [hb] at uQ; simp only [Option.bind_some] at uQ
         cases hq : je st ps t cs y with
         | none => rw [hq] at uQ; cases uQ
         | some q =>
           obtain ⟨z, us, rs⟩ := q; rw [hq] at uQ; injection uQ with uQ; injection uQ with e1 e2; injection e2 with e2 e3; subst e1 e2 e3; obtain ⟨sl, k1, k2, k3⟩ := fG hb; obtain ⟨h1, vs, ty, h2, h3⟩ := h.boxes b sl cs k1 k3; obtain ⟨g1, g2, g3⟩ := vals _ _ _ _ _ _ h3 hq; refine ⟨g1, fun l hl => ?_, hJ k (.box []) [.box b] us, by rw [ki]; rfl, kj _ _ _ _, fun ρ hp hr => ⟨c.bx b, vs, ty, hV.2.2 cs hb, ?_, h2, g3 ρ (fun p jd => hp p (List.mem_append_right _ jd)) hr⟩⟩
           · rcases List.mem_cons.1 hl with rfl | hl
             · rfl
             · exact g2 l hl
           · exact (Cz.iS h1).trans (hp (.box b, .qB k) (by simp [hJ]))
     | _ => cases he
   | agg _ => cases he
   | kR _ => cases he
 | bo ps => cases he
theorem tI {w0 : World} {mu : Mu} {c : Cz} {st : St} {a : Act} {w : World} (h : Rel w0 mu c st a w) : (l : List (Option AP)) → (k : Nat) → {x : ak (ar l)} → {u : List Lb} → {r : List (Nat × Nat)} → kZ st k l = some (x, u, r) →
   (∀ l ∈ u, l.real = true) ∧ ∃ tb : List (Lb × Lb), tb.map (·.1) = u ∧ (∀ p ∈ tb, p.2.iM = true) ∧ ∀ ρ : Lb → Option Lb, (∀ p ∈ tb, ρ p.1 = some p.2) → (∀ p ∈ r, ρ (.sp p.1 p.2) = none) → x8 (c.map ρ) w c.lc a k (bM l x)
 | [], k, x, u, r, he => by
   have he : some ((), ([] : List Lb), ([] : List (Nat × Nat))) = some (x, u, r) := he; injection he with he; injection he with _ e2; injection e2 with e2 e3; subst e2 e3; exact ⟨by simp, [], rfl, by simp, fun ρ _ _ i av hi => by simp [bM] at hi⟩
 | none :: l, k, x, u, r, he => by
   obtain ⟨g1, tb, g2, g3, g4⟩ := tI h l (k + 1) he; refine ⟨g1, tb, g2, g3, fun ρ hp hr i av hi => ?_⟩
   cases i with
   | zero => simp [bM] at hi
   | succ i =>
     have := g4 ρ hp hr i av (by simpa [bM] using hi)
     rwa [show k + 1 + i = k + (i + 1) by omega] at this
 | some p :: l, k, x, u, r, he => by
   unfold kZ at he
   cases h1 : kZ st (k + 1) l with
   | none => simp [h1] at he
   | some q1 =>
     obtain ⟨y, us, rs⟩ := q1; simp only [h1] at he
     cases h2 : yP st k p (ar l) (bI st k) y with
     | none => simp [h2] at he
     | some q2 =>
       obtain ⟨x1, u1, r1⟩ := q2; simp only [h2] at he; injection he with he; injection he with e1 e2; injection e2 with e2 e3; subst e1 e2 e3; obtain ⟨g1, tb, g2, g3, g4⟩ := tI h l (k + 1) h1; obtain ⟨a1, a2, ta, a3, a4, a5⟩ := xh h k (h.eL k) h2; refine ⟨fun l' hl => ?_, ta ++ tb, by simp [a3, g2], fun p hp => ?_, fun ρ hp hr i av hi => ?_⟩
       · rcases List.mem_append.1 hl with hl | hl
         · exact a2 l' hl
         · exact g1 l' hl
       · rcases List.mem_append.1 hp with hp | hp
         · exact a4 p hp
         · exact g3 p hp
       · cases i with
         | zero =>
           have hi : some (some (p.av (ar l) x1).1) = some (some av) := hi; simp only [Option.some.injEq] at hi; subst hi; exact a5 ρ (fun p jd => hp p (List.mem_append_left _ jd)) (fun p jd => hr p (List.mem_append_left _ jd))
         | succ i =>
           have hi : (bM l (p.av (ar l) x1).2)[i]? = some (some av) := hi; rw [a1] at hi; have := g4 ρ (fun p jd => hp p (List.mem_append_right _ jd)) (fun p jd => hr p (List.mem_append_right _ jd)) i av hi
           rwa [show k + 1 + i = k + (i + 1) by omega] at this
end Go.TM
namespace Go.TM
open Go Go.RowKit
def KY (L : List (Option AV)) (lc : Nat → Nat → Loc) (a : Act) : IE → Prop
 | .arr i j g W n l => g = 1 ∧ i < L.length ∧ ∀ av, L[i]? = some (some av) → (∃ A, av = .io A ∧ (j = 0 → A.r.width = W ∧ A.xs.length = n ∧ lc i 0 = l)) ∨ ∃ os, av = .bo os ∧ ∀ A, os[j]? = some (.own A) → A.r.width = W ∧ A.xs.length = n ∧ lc i j = l
 | .box i g lH => g = 1 ∧ i < L.length ∧ ∀ os, L[i]? = some (some (.box os)) → a.eval (.tmp i) = .pointer (some ⟨lH, 0, none⟩)
def KZ : Lb → Lb
 | .bA i j => .sp i j
 | .qB i => .box i
 | l => l
structure K0 (c : Cz) (w : World) (k : Nat) (av : Option AV) (u : Value) (lio : Nat → Loc) (lH : Nat) (lcs : Nat → Loc) : Prop where
 arr : ∀ j A, nth (ch k av).aI j = some (some A) → ∃ v, OwnAt c w (.bA k j) (lcs j) A v
 reg : ∀ (c2 : Cz) (fB : St), (∀ b, c.ok b → c2.ok b) → c2.bx k = lH → c2.lc k = lcs → nth fB k = some (ch k av) → dS c2 fB w (ch k av).v u
 box : ∀ cs, (ch k av).box = some cs → u = .pointer (some ⟨lH, 0, none⟩) ∧ c.own lH = some (.qB k) ∧ ∃ vs ty, w.heap[lH]? = some (.cells vs ty (0, 0)) ∧
   ∀ (c2 : Cz) (fB : St), (∀ b, c.ok b → c2.ok b) → c2.lc k = lcs → nth fB k = some (ch k av) → ei c2 fB w cs vs.toList
 io : ∀ A, av = some (.io A) → lcs 0 = lio 0
 bo : ∀ os, av = some (.bo os) → lcs = lio
theorem oA {st : St} {k j : Nat} {av : Option AV} {A : fT} (h : nth st k = some (ch k av)) (hA : aQ st k j 1 = some A) : nth (ch k av).aI j = some (some A) := by
 obtain ⟨sl, h1, _, h3⟩ := a7 hA; rw [h] at h1; cases h1; exact h3
theorem oB {st : St} {k : Nat} {av : Option AV} (h : nth st k = some (ch k av)) : cD st k = 1 := by
 unfold cD; rw [h]
 cases av with
 | none => rfl
 | some av => cases av with
   | val agg os => cases agg <;> rfl
   | io A => rfl
   | box os => rfl
   | bo os => rfl
theorem Cu {st : St} {k : Nat} {av : Option AV} (h : nth st k = some (ch k av)) : fD st k = 1 := by
 unfold fD; rw [h]
 cases av with
 | none => rfl
 | some av => cases av with
   | val agg os => cases agg <;> rfl
   | io A => rfl
   | box os => rfl
   | bo os => rfl
theorem xi : (os : List OV) → (j : Nat) → {A : fT} → nth (aV os) j = some (some A) → os[j]? = some (.own A)
 | [], _, _, h => by simp [aV] at h
 | o :: os, 0, A, h => by
   simp only [aV, nth, Option.some.injEq] at h
   cases o with
   | own B => injection h with h; subst h; rfl
   | _ => cases h
 | o :: os, j + 1, A, h => by
   have := xi os j (A := A) h; simpa using this
theorem Cv {d g : Nat} : (os : List OV) → (j k : Nat) → (o : OV) → os[k]? = some o → ∃ x, aU d g (j + k) [o] = [x] ∧ (aU d g j os)[k]? = some x
 | [], _, _, _, h => by simp at h
 | o :: os, j, 0, o', h => by
   simp only [List.getElem?_cons_zero, Option.some.injEq] at h; subst h
   cases o <;> exact ⟨_, rfl, rfl⟩
 | o :: os, j, k + 1, o', h => by
   obtain ⟨x, h1, h2⟩ := Cv (d := d) (g := g) os (j + 1) k o' (by simpa using h); rw [show j + 1 + k = j + (k + 1) by omega] at h1; refine ⟨x, h1, ?_⟩
   cases o <;> simpa [aU] using h2
theorem Ax {d g : Nat} : (os : List OV) → (j : Nat) → (aU d g j os).length = os.length
 | [], _ => rfl
 | o :: os, j => by cases o <;> simp [aU, Ax os (j + 1)]
theorem a8.K1 {c : Cz} {w : World} {f : Nat → Lb} {os : List OV} {vs : List Value} (h : a8 c w f 0 os vs) (lcs : Nat → Loc) (ho : ∀ k A u, os[k]? = some (.own A) → vs[k]? = some u → ∃ l, OwnAt c w l (lcs k) A u)
   (c2 : Cz) (fB : St) (d g : Nat) (fb : ∀ b, c.ok b → c2.ok b) (gn : ∀ k, c2.lc d k = lcs k) (xZ : ∀ k A, aQ fB d k g = some A → os[k]? = some (.own A)) (hg : g ≤ cD fB d) : ei c2 fB w (aU d g 0 os) vs := by
 obtain ⟨h1, h2⟩ := a8.KX os 0 vs h; refine ⟨by rw [Ax, h1], fun k x v hx hv => ?_⟩; have bP : k < os.length := by rw [← h1]; exact (List.getElem?_eq_some_iff.1 hv).1
 have Gp : os[k]? = some os[k] := List.getElem?_eq_getElem bP; obtain ⟨y, q1, q2⟩ := Cv (d := d) (g := g) os 0 k _ Gp; rw [q2] at hx
 cases hx
 have hL := h2 k _ v Gp hv; rw [Nat.zero_add] at q1; generalize os[k] = o at *
 cases o with
 | own A =>
   simp only [aU, List.cons.injEq, and_true] at q1; subst q1; obtain ⟨l, hO⟩ := ho k A v Gp hv; refine ⟨hO.1, hg, fun A' dI => ?_⟩; have := xZ k A' dI; rw [Gp] at this
   cases this
   rw [gn]; exact hO.2.1
 | shr r xs =>
   simp only [aU, List.cons.injEq, and_true] at q1; subst q1; obtain ⟨v', l, e, h3, _⟩ := hL
   cases e
   exact bw.stays ⟨Nat.le_refl _, fun _ _ _ => rfl, fun b _ hb => fb b hb⟩ _ _ _ h3
 | jY r xs =>
   simp only [aU, List.cons.injEq, and_true] at q1; subst q1; obtain ⟨v', l, e, ⟨b, oo, e1, e2, e3, e4⟩, _⟩ := hL
   cases e
   exact ⟨b, oo, e1, e2, fb b e3, fun x hx => bU.stays ⟨Nat.le_refl _, fun _ _ _ => rfl, fun b _ hb => fb b hb⟩ _ _ _ _ rfl (e4 x hx)⟩
 | fn fg r xs =>
   simp only [aU, List.cons.injEq, and_true] at q1; subst q1; obtain ⟨v', l, e, h3, _⟩ := hL
   cases e
   exact h3.stays ⟨Nat.le_refl _, fun _ _ _ => rfl, fun b _ hb => fb b hb⟩
 | _ =>
   simp only [aU, List.cons.injEq, and_true] at q1; subst q1; obtain ⟨l, e, _⟩ := hL
   cases e
   rfl
theorem NJ {c : Cz} {w : World} {k : Nat} {lio : Nat → Loc} {av : Option AV} {u : Value} (h : ∀ v, av = some v → p9 c w k lio v u) : ∃ lH lcs, K0 c w k av u lio lH lcs := by
 cases av with
 | none => exact ⟨0, fun _ => .nil, fun j A hA => by simp [ch, Sl.blank] at hA, fun c2 fB _ _ _ _ => trivial, fun cs th => by simp [ch, Sl.blank] at th, fun A hA => (by cases hA), fun A hA => (by cases hA)⟩
 | some av =>
   have h := h av rfl
   cases av with
   | val agg os =>
     cases agg with
     | true =>
       obtain ⟨vs, rfl, hl⟩ := h; obtain ⟨lcs, g1, g2⟩ := a8.cells os 0 _ hl; simp only [Nat.zero_add] at g1 g2; refine ⟨0, lcs, fun j A hA => g1 j A hA, fun c2 fB fb _ gn hn => ⟨vs, rfl, ?_⟩, fun cs th => by simp [ch] at th, fun A hA => (by cases hA), fun A hA => (by cases hA)⟩; exact g2 c2 fB k 1 fb (fun j _ => by rw [gn]) (fun j A _ hA => oA hn hA) (by rw [oB hn]; exact Nat.le_refl _)
     | false =>
       have hl : a8 c w (.bA k) 0 os [u] := h; obtain ⟨lcs, g1, g2⟩ := a8.cells os 0 _ hl; simp only [Nat.zero_add] at g1 g2; refine ⟨0, lcs, fun j A hA => g1 j A hA, fun c2 fB fb _ gn hn => ?_, fun cs th => by simp [ch] at th, fun A hA => (by cases hA), fun A hA => (by cases hA)⟩; have hR := g2 c2 fB k 1 fb (fun j _ => by rw [gn]) (fun j A _ hA => oA hn hA) (by rw [oB hn]; exact Nat.le_refl _); show dS c2 fB w (match aU k 1 0 os with | [c] => .one c | _ => .one .bad) u; have h1 := hR.1
       cases hc : aU k 1 0 os with
       | nil => trivial
       | cons x l => cases l with
         | nil => rw [hc] at hR; exact hR.2 0 x u rfl rfl
         | cons _ _ => trivial
   | io A =>
     have hO : OwnAt c w (.bA k 0) (lio 0) A u := h; refine ⟨0, lio, fun j A' dI => ?_, fun c2 fB fb _ gn hn => ?_, fun cs th => by simp [ch] at th, fun A hA => rfl, fun A hA => by cases hA⟩
     · cases j with
       | zero => simp [ch, nth] at dI; subst dI; exact ⟨u, hO⟩
       | succ j => simp [ch, nth] at dI
     · refine ⟨hO.1, by rw [oB hn]; exact Nat.le_refl _, fun A' dI => ?_⟩; have := oA hn dI; simp [ch, nth] at this; subst this; rw [gn]; exact hO.2.1
   | bo os =>
     obtain ⟨vs, rfl, hl, KM⟩ := h; have fh : ∀ j A u, os[j]? = some (.own A) → vs.toList[j]? = some u → OwnAt c w (.bA k j) (lio j) A u := fun j A u h1 h2 => KM j _ u h1 h2
     obtain ⟨n1, _⟩ := a8.KX os 0 _ hl; refine ⟨0, lio, fun j A' dI => ?_, fun c2 fB fb _ gn hn => ⟨vs, rfl, ?_⟩, fun cs th => by simp [ch] at th, fun A hA => (by cases hA), fun w6 _ => rfl⟩
     · have hj := xi os j dI; have bP : j < vs.toList.length := by rw [n1]; exact (List.getElem?_eq_some_iff.1 hj).1
       exact ⟨_, fh j A' _ hj (List.getElem?_eq_getElem bP)⟩
     · exact a8.K1 hl lio (fun j A u h1 h2 => ⟨_, fh j A u h1 h2⟩) c2 fB k 1 fb (fun j => by rw [gn]) (fun j A hA => xi os j (oA hn hA)) (by rw [oB hn]; exact Nat.le_refl _)
   | box os =>
     obtain ⟨lH, vs, ty, h1, h2, h3, hl⟩ := h; obtain ⟨lcs, g1, g2⟩ := a8.cells os 0 _ hl; simp only [Nat.zero_add] at g1 g2; refine ⟨lH, lcs, fun j A hA => g1 j A hA, fun c2 fB fb zr gn hn => ⟨by rw [h1]; rfl, by rw [Cu hn]; exact Nat.le_refl _, fun cs _ => by rw [zr]; exact h1⟩, fun cs th => ⟨h1, h2, vs, ty, h3, fun c2 fB fb gn hn => ?_⟩, fun A hA => (by cases hA), fun A hA => (by cases hA)⟩; simp only [ch, Option.some.injEq] at th; subst th; exact g2 c2 fB k 1 fb (fun j _ => by rw [gn]) (fun j A _ hA => oA hn hA) (by rw [oB hn]; exact Nat.le_refl _)
theorem Rel.H9 {w0 : World} {mu : Mu} {c : Cz} {a : Act} {w : World} {L : List (Option AV)} {lc : Nat → Nat → Loc} (hb : yH w0 mu c w) (hd : a.defers = []) (hL : x8 c w lc a 0 L) (hA : ∀ p ∈ mu.an, KY L lc a p) : ∃ c', Rel w0 mu c' (lI 0 L) a w := by
 have NG : ∀ k, ∃ q : Nat × (Nat → Loc), K0 c w k ((L[k]?).getD none) (a.eval (.tmp k)) (lc k) q.1 q.2 := by
   intro k; obtain ⟨lH, lcs, h⟩ := NJ (c := c) (w := w) (k := k) (lio := lc k) (av := (L[k]?).getD none) (u := a.eval (.tmp k)) (fun v hv => by
     have := hL k v (by
       cases hq : L[k]? with
       | none => rw [hq] at hv; cases hv
       | some o => rw [hq] at hv; simp at hv; rw [hv])
     simpa using this)
   exact ⟨(lH, lcs), h⟩
 obtain ⟨q, hq⟩ := Classical.axiomOfChoice NG; have hn : ∀ k, nth (lI 0 L) k = (L[k]?).map (ch k) := fun k => by have := Cs L 0 k; simpa using this
 have IL : ∀ k sl, nth (lI 0 L) k = some sl → ∃ o, L[k]? = some o ∧ sl = ch k o ∧ nth (lI 0 L) k = some (ch k ((L[k]?).getD none)) ∧ (L[k]?).getD none = o := by
   intro k sl h; rw [hn] at h
   cases ho : L[k]? with
   | none => rw [ho] at h; cases h
   | some o =>
     rw [ho] at h
     cases h
     refine ⟨o, rfl, rfl, ?_, rfl⟩; rw [hn, ho]; rfl
 let c' := c.dB KZ (fun k => (q k).1) (fun k => (q k).2)
 have fb : ∀ b, c.ok b → c'.ok b := fun b hb => Cz.jZ.2 hb
 refine ⟨c', fun t => ?_, fun s sl cs hs zr => ?_, fun s j sl A hs dI => ?_, fun b l hl => ?_, fun b bP hl => hb.free b bP (by simpa [c', Cz.dB] using hl), hb.kept, hb.old, hd, fun p hp => ?_⟩
 · cases hs : nth (lI 0 L) t with
   | none =>
     have : bI (lI 0 L) t = .one .bad := by unfold bI; rw [hs]
     rw [this]; trivial
   | some sl =>
     obtain ⟨o, h1, rfl, h3, h4⟩ := IL t sl hs; have : bI (lI 0 L) t = (ch t ((L[t]?).getD none)).v := by unfold bI; rw [h3]
     rw [this]; exact (hq t).reg c' (lI 0 L) fb rfl rfl h3
 · obtain ⟨o, h1, rfl, h3, h4⟩ := IL s sl hs; rw [← h4] at zr; obtain ⟨g1, g2, vs, ty, g3, g4⟩ := (hq s).box cs zr; refine ⟨?_, vs, ty, g3, g4 c' (lI 0 L) fb rfl h3⟩; show (c.own (q s).1).map KZ = _; rw [g2]; rfl
 · obtain ⟨o, h1, rfl, h3, h4⟩ := IL s sl hs; rw [← h4] at dI; obtain ⟨v, hv⟩ := (hq s).arr j A dI; exact hv.arr rfl rfl
 · simp only [c', Cz.dB, Option.map_eq_some_iff] at hl; obtain ⟨k, hk, e⟩ := hl; obtain ⟨h1, h2⟩ := hb.owned b k hk; refine ⟨h1, h2.imp (fun e2 => ?_) id⟩; subst e2; rw [← e]; rfl
 · have hf := hA p hp
   cases p with
   | arr i j g W n l =>
     obtain ⟨rfl, hi, Ez⟩ := hf; have hs : nth (lI 0 L) i = some (ch i ((L[i]?).getD none)) := by rw [hn]; simp [List.getElem?_eq_getElem hi]
     refine ⟨by rw [oB hs]; exact Nat.le_refl _, fun A dI => ?_⟩; have h3 := oA hs dI
     cases ho : L[i]? with
     | none => rw [ho] at h3; simp [ch, Sl.blank] at h3
     | some o => cases o with
       | none => rw [ho] at h3; simp [ch, Sl.blank] at h3
       | some av =>
         rcases Ez av ho with ⟨A0, rfl, h5⟩ | ⟨os, rfl, h5⟩
         case inr =>
           rw [ho] at h3; obtain ⟨e1, e2, e3⟩ := h5 A (xi os j h3); refine ⟨e1, e2, ?_⟩; rw [← e3]; have := (hq i).bo os (by rw [ho]; rfl); show (q i).2 j = lc i j; rw [this]
         rw [ho] at h3
         cases j with
         | zero =>
           simp [ch, nth] at h3; subst h3; obtain ⟨e1, e2, e3⟩ := h5 rfl; exact ⟨e1, e2, ((hq i).io A0 (by rw [ho]; rfl)).trans e3⟩
         | succ j => simp [ch, nth] at h3
   | box i g lH =>
     obtain ⟨rfl, hi, Ez⟩ := hf; have hs : nth (lI 0 L) i = some (ch i ((L[i]?).getD none)) := by rw [hn]; simp [List.getElem?_eq_getElem hi]
     refine ⟨by rw [Cu hs]; exact Nat.le_refl _, fun cs th => ?_⟩; obtain ⟨sl, k1, k2, k3⟩ := fG th; rw [hs] at k1; cases k1; obtain ⟨g1, _⟩ := (hq i).box cs k3; have qn : ∃ os, L[i]? = some (some (.box os)) := by
       cases ho : L[i]? with
       | none => rw [ho] at k3; simp [ch, Sl.blank] at k3
       | some o => cases o with
         | none => rw [ho] at k3; simp [ch, Sl.blank] at k3
         | some av => cases av with
           | val agg os => rw [ho] at k3; cases agg <;> simp [ch] at k3
           | io A => rw [ho] at k3; simp [ch] at k3
           | bo os => rw [ho] at k3; simp [ch] at k3
           | box os => exact ⟨os, rfl⟩
     obtain ⟨os, qn⟩ := qn; have := Ez os qn; rw [this] at g1; injection g1 with g1; injection g1 with g1; injection g1 with g1; exact g1.symm
end Go.TM
namespace Go.TM
open Go Go.RowKit
inductive Src where
 | tmp (t : Nat)
 | cell (t : Nat)
 | ptr (t : Nat)  -- FU struct behind a pointer, abM is iM back
structure RP where
 src : Src
 agg : Bool
 ps : List OP
def bQ : List RP → RT → RT
 | [], t => t
 | r :: rs, t => jP r.ps (bQ rs t)
def oX : List OP → RT → RT
 | [], t => t
 | .own r _ :: ps, t => .cons (.sl r) (oX ps t)
 | .int _ :: ps, t => oX ps t
 | .bool :: ps, t => oX ps t
 | .str :: ps, t => oX ps t
 | .shr _ :: ps, t => oX ps t
 | .jY _ :: ps, t => oX ps t
 | .fn _ _ :: ps, t => oX ps t
def ba : List AP → RT
 | [] => .nil
 | .val _ _ :: l => ba l
 | .io r _ :: l => .cons (.sl r) (ba l)
 | .box _ ps :: l => jP ps (ba l)
 | .bo ps :: l => oX ps (ba l)
def RP.cells (st : St) (r : RP) : Option (List CV) :=
 match r.src with
 | .tmp t => match bI st t with
   | .agg cs => bif r.agg then some cs else none
   | .one c => bif r.agg then none else some [c]
   | .kR _ => none
 | .cell t => match bI st t with
   | .one (.ptr b g off) => bif Nat.beq off 0 then cV st b g else none
   | _ => none
 | .ptr t => match bI st t with
   | .one (.ptr b g off) => bif Nat.beq off 0 then cV st b g else none
   | _ => none
def RP.SD (st : St) (r : RP) : List (Option Lb) :=
 match r.src with
 | .ptr t => (match bI st t with | .one (.ptr b _ _) => [some (.box b)] | _ => [])
 | _ => []
def Ay (st : St) : (rs : List RP) → (t : RT) → ak t → Option (ak (bQ rs t) × List (Option Lb) × List (Nat × Nat))
 | [], _, y => some (y, [], [])
 | r :: rs, t, y => (r.cells st).bind fun cs => (Ay st rs t y).bind fun q => (je st r.ps (bQ rs t) cs q.1).map fun p => (p.1, r.SD st ++ (p.2.1 ++ q.2.1), p.2.2 ++ q.2.2)
def jQ (st : St) (i : Nat) : (j : Nat) → (ps : List OP) → (t : RT) → ak t → Option (ak (oX ps t) × List Lb)
 | _, [], _, y => some (y, [])
 | j, .own r d :: ps, t, y => (jQ st i (j + 1) ps t y).bind fun q => (aQ st i j 1).bind fun A => bif A.own && A.md.is d then (bn r A.xs).map fun xs => ((xs, q.1), .sp i j :: q.2) else none
 | j, .int _ :: ps, t, y => jQ st i (j + 1) ps t y
 | j, .bool :: ps, t, y => jQ st i (j + 1) ps t y
 | j, .str :: ps, t, y => jQ st i (j + 1) ps t y
 | j, .shr _ :: ps, t, y => jQ st i (j + 1) ps t y
 | j, .jY _ :: ps, t, y => jQ st i (j + 1) ps t y
 | j, .fn _ _ :: ps, t, y => jQ st i (j + 1) ps t y
def qt (st : St) : (i : Nat) → (ps : List AP) → Option (ak (ba ps) × List Lb × List (Nat × Nat))
 | _, [] => some ((), [], [])
 | i, .val _ _ :: l => qt st (i + 1) l
 | i, .io r d :: l => (qt st (i + 1) l).bind fun q => (yP st i (.io r d) (ba l) (.one (.ref i 0 1 .full)) q.1).map fun p => (p.1, p.2.1 ++ q.2.1, p.2.2 ++ q.2.2)
 | i, .box _ ps :: l => (qt st (i + 1) l).bind fun q => (yP st i (.box true ps) (ba l) (.one (.ptr i 1 0)) q.1).map fun p => (p.1, p.2.1 ++ q.2.1, p.2.2 ++ q.2.2)
 | i, .bo ps :: l => (qt st (i + 1) l).bind fun q => (jQ st i 0 ps (ba l) q.1).map fun p => (p.1, p.2 ++ q.2.1, q.2.2)
def xj (rs : List RP) (ps : List AP) : Ex → St → Option (ak (bQ rs (ba ps)))
 | .exit _, _ => none
 | _, st => (qt st 0 ps).bind fun x => (Ay st rs (ba ps) x.1).bind fun q => bif re (bq q.2.1 ++ x.2.1) && apart (bq q.2.1 ++ x.2.1) (q.2.2 ++ x.2.2) then some q.1 else none
def RP.rv (r : RP) (os : List OV) : RV :=
 match r.src with
 | .ptr _ => .ptr os
 | _ => match r.agg, os with
   | false, [o] => .one o
   | _, os => .agg os
def eS : (rs : List RP) → (t : RT) → ak (bQ rs t) → List RV × ak t
 | [], _, x => ([], x)
 | r :: rs, t, x => (r.rv (cL r.ps (bQ rs t) x).1 :: (eS rs t (cL r.ps (bQ rs t) x).2).1, (eS rs t (cL r.ps (bQ rs t) x).2).2)
def kC : (ps : List OP) → (t : RT) → ak (oX ps t) → List (Option fT) × ak t
 | [], _, x => ([], x)
 | .own r d :: ps, t, x => (some { r := r, own := true, xs := x.1, md := d } :: (kC ps t x.2).1, (kC ps t x.2).2)
 | .int _ :: ps, t, x => (none :: (kC ps t x).1, (kC ps t x).2)
 | .bool :: ps, t, x => (none :: (kC ps t x).1, (kC ps t x).2)
 | .str :: ps, t, x => (none :: (kC ps t x).1, (kC ps t x).2)
 | .shr _ :: ps, t, x => (none :: (kC ps t x).1, (kC ps t x).2)
 | .jY _ :: ps, t, x => (none :: (kC ps t x).1, (kC ps t x).2)
 | .fn _ _ :: ps, t, x => (none :: (kC ps t x).1, (kC ps t x).2)
def kn : (ps : List AP) → ak (ba ps) → List XV
 | [], _ => []
 | .val _ _ :: l, x => kn l x
 | .io r d :: l, x => .io { r := r, own := true, xs := x.1, md := d } :: kn l x.2
 | .box _ ps :: l, x => .box (cL ps (ba l) x).1 :: kn l (cL ps (ba l) x).2
 | .bo ps :: l, x => .bo (kC ps (ba l) x).1 :: kn l (kC ps (ba l) x).2
def jR (ps : List AP) (rs : List RP) (t : ak (ar (ps.map some)) → Option (ak (bQ rs (ba ps)))) : s7 := fun cM =>
 match ek ps cM with
 | some x => some { r := bQ rs (ba ps), o := t x, res := fun y => { outs := (eS rs (ba ps) y).1, exts := kn ps (eS rs (ba ps) y).2 } }
 | none => none
theorem gX {st : St} {i : Nat} : (ps : List OP) → (j : Nat) → (t : RT) → (y : ak t) → {x : ak (oX ps t)} → {u : List Lb} → jQ st i j ps t y = some (x, u) → (kC ps t x).2 = y ∧ (∀ l ∈ u, ∃ k, l = .sp i k) ∧
   ∀ (k : Nat) (r : RT) (d : Md), ps[k]? = some (.own r d) → ∃ A xs, aQ st i (j + k) 1 = some A ∧ A.own = true ∧ A.md = d ∧ bn r A.xs = some xs ∧ nth (kC ps t x).1 k = some (some { r := r, own := true, xs := xs, md := d }) ∧ .sp i (j + k) ∈ u
 | [], j, t, y, x, u, h => by
   injection h with h; injection h with e1 e2; subst e1 e2; exact ⟨rfl, by simp, fun k r d hk => by simp at hk⟩
 | .own r d :: ps, j, t, y, x, u, h => by
   unfold jQ at h; obtain ⟨q, hq, h⟩ := Option.bind_eq_some_iff.1 h; obtain ⟨A, hA, h⟩ := Option.bind_eq_some_iff.1 h; obtain ⟨ho, h⟩ := aD h; rw [Bool.and_eq_true] at ho; obtain ⟨xs, OS, h⟩ := Option.map_eq_some_iff.1 h; injection h with e1 e2; subst e1 e2; obtain ⟨z, us⟩ := q; obtain ⟨g1, g2, g3⟩ := gX ps (j + 1) t y hq; refine ⟨g1, fun l hl => ?_, fun k r' d' hk => ?_⟩
   · rcases List.mem_cons.1 hl with rfl | hl
     · exact ⟨j, rfl⟩
     · exact g2 l hl
   · cases k with
     | zero =>
       simp only [List.getElem?_cons_zero, Option.some.injEq, OP.own.injEq] at hk; obtain ⟨rfl, rfl⟩ := hk; exact ⟨A, xs, hA, ho.1, Md.kS.1 ho.2, OS, rfl, List.mem_cons_self⟩
     | succ k =>
       obtain ⟨A', Tn, k1, k2, kd, k3, k4, k5⟩ := g3 k r' d' (by simpa using hk); rw [show j + 1 + k = j + (k + 1) by omega] at k1 k5; exact ⟨A', Tn, k1, k2, kd, k3, k4, List.mem_cons_of_mem _ k5⟩
 | .int _ :: ps, j, t, y, x, u, h => iG (gX ps (j + 1) t y h) (by simp) (fun k => rfl)
 | .bool :: ps, j, t, y, x, u, h => iG (gX ps (j + 1) t y h) (by simp) (fun k => rfl)
 | .str :: ps, j, t, y, x, u, h => iG (gX ps (j + 1) t y h) (by simp) (fun k => rfl)
 | .shr _ :: ps, j, t, y, x, u, h => iG (gX ps (j + 1) t y h) (by simp) (fun k => rfl)
 | .jY _ :: ps, j, t, y, x, u, h => iG (gX ps (j + 1) t y h) (by simp) (fun k => rfl)
 | .fn _ _ :: ps, j, t, y, x, u, h => iG (gX ps (j + 1) t y h) (by simp) (fun k => rfl)
where
 iG {st : St} {i j : Nat} {p : OP} {ps : List OP} {D : Type} {y z : D} {L L' : List (Option fT)} {u : List Lb} (h : z = y ∧ (∀ l ∈ u, ∃ k, l = .sp i k) ∧ ∀ (k : Nat) (r : RT) (d : Md), ps[k]? = some (.own r d) → ∃ A xs, aQ st i (j + 1 + k) 1 = some A ∧ A.own = true ∧ A.md = d ∧ bn r A.xs = some xs ∧ nth L k = some (some { r := r, own := true, xs := xs, md := d }) ∧ .sp i (j + 1 + k) ∈ u)
     (hp : ∀ r d, p ≠ .own r d) (hL : ∀ k, nth L' (k + 1) = nth L k) : z = y ∧ (∀ l ∈ u, ∃ k, l = .sp i k) ∧ ∀ (k : Nat) (r : RT) (d : Md), (p :: ps)[k]? = some (.own r d) → ∃ A xs, aQ st i (j + k) 1 = some A ∧ A.own = true ∧ A.md = d ∧ bn r A.xs = some xs ∧ nth L' k = some (some { r := r, own := true, xs := xs, md := d }) ∧ .sp i (j + k) ∈ u := by
   obtain ⟨h1, h2, h3⟩ := h; refine ⟨h1, h2, fun k r d hk => ?_⟩
   cases k with
   | zero =>
     simp only [List.getElem?_cons_zero, Option.some.injEq] at hk; exact absurd hk (hp r d)
   | succ k =>
     obtain ⟨A', Tn, k1, k2, kd, k3, k4, k5⟩ := h3 k r d (by simpa using hk); rw [show j + 1 + k = j + (k + 1) by omega] at k1 k5; exact ⟨A', Tn, k1, k2, kd, k3, by rw [hL]; exact k4, k5⟩
theorem Cw {st : St} : (ps : List OP) → (t : RT) → (cs : List CV) → (y : ak t) → {x : ak (jP ps t)} → {u : List (Option Lb)} → {r : List (Nat × Nat)} → je st ps t cs y = some (x, u, r) → u.length = ps.length ∧ cs.length = ps.length ∧ (cL ps t x).1.length = ps.length
 | [], t, [], y, x, u, r, h => by
   injection h with h; injection h with e1 e2; injection e2 with e2 e3; subst e1 e2 e3; exact ⟨rfl, rfl, rfl⟩
 | [], t, _ :: _, y, x, u, r, h => by simp [je] at h
 | _ :: _, t, [], y, x, u, r, h => by simp [je] at h
 | p :: ps, t, c :: cs, y, x, u, r, h => by
   unfold je at h
   cases hc : eR st p.lF c with
   | none => simp [hc] at h
   | some q1 =>
     obtain ⟨o, u1, r1⟩ := q1
     cases hq : je st ps t cs y with
     | none => simp [hc, hq] at h
     | some q2 =>
       obtain ⟨z, us, rs⟩ := q2; simp only [hc, hq] at h
       cases ho : oW p o with
       | none => simp [ho] at h
       | some a1 =>
         simp only [ho] at h; injection h with h; injection h with e1 e2; injection e2 with e2 e3; subst e1 e2 e3; obtain ⟨g1, g2, g3⟩ := Cw ps t cs y hq; exact ⟨by simp [g1], by simp [g2], by simp [cL, g3]⟩
def K2 (T : jq) (fr : Array Value) : ResultVar → RP → Prop
 | .tmp t, r => r.src = .tmp t ∨ r.src = .ptr t
 | .cell t ty, r => r.src = .cell t ∧ T.cells ty = some r.ps.length ∧ T.agg ty = r.agg
def Az (tm : Array Value) : ResultVar → Sem Value
 | .tmp t => pure (tm.getD t undef)
 | .cell a t => do loadVar t (← asAddr (tm.getD a undef))
theorem RP.K3 {P : Program} {T : jq} (hT : fq P T) {w0 : World} {mu : Mu} {c : Cz} {st : St} {a : Act} {w : World} (h : Rel w0 mu c st a w) {r : RP} {rv : ResultVar} (hr : K2 T a.tmps rv r) {cs : List CV} (hc : r.cells st = some cs) (hn : cs.length = r.ps.length) :
   ∃ vs v, ei c st w cs vs ∧ (Az a.tmps rv).run P w = .ok v w ∧ (((∀ t, r.src ≠ .ptr t) ∧ ((r.agg = true ∧ v = .agg vs.toArray) ∨ (r.agg = false ∧ (vs = [v])))) ∨
     (∃ t b ty us, r.src = .ptr t ∧ r.SD st = [some (.box b)] ∧ v = .pointer (some ⟨c.bx b, 0, none⟩) ∧ c.own (c.bx b) = some (.box b) ∧ w.heap[c.bx b]? = some (.cells us ty (0, 0)) ∧ vs = us.toList)) := by
 unfold RP.cells at hc
 cases rv with
 | tmp t =>
   rcases (hr : r.src = .tmp t ∨ r.src = .ptr t) with hs | hs
   case inr =>
     rw [hs] at hc; have qI := h.eL t; simp only at hc
     cases hv : bI st t with
     | kR _ => rw [hv] at hc; cases hc
     | agg l => rw [hv] at hc; cases hc
     | one x =>
       cases x with
       | ptr b g off =>
         rw [hv] at hc qI; obtain ⟨ho, hb⟩ := aD hc; have ho := Nat.eq_of_beq_eq_true ho; subst ho; obtain ⟨sl, k1, k2, k3⟩ := fG hb; obtain ⟨q1, vs, ty', q2, q3⟩ := h.boxes b sl cs k1 k3; have e : a.tmps.getD t undef = .pointer (some ⟨c.bx b, 0, none⟩) := qI.2.2 cs hb; refine ⟨vs.toList, a.tmps.getD t undef, q3, rfl, .inr ⟨t, b, ty', vs, hs, ?_, e, q1, q2, rfl⟩⟩; unfold RP.SD; rw [hs]; simp only [hv]
       | _ => rw [hv] at hc; cases hc
   rw [hs] at hc; have qI := h.eL t; simp only at hc
   cases hv : bI st t with
   | kR _ => rw [hv] at hc; cases hc
   | agg l =>
     rw [hv] at hc qI; obtain ⟨Ia, hc1⟩ := aD hc
     cases hc1
     obtain ⟨vs, e, hl⟩ := qI; exact ⟨vs.toList, a.eval (.tmp t), hl, rfl, .inl ⟨fun t' e' => (by rw [hs] at e'; cases e'), .inl ⟨Ia, by rw [e]⟩⟩⟩
   | one x =>
     rw [hv] at hc qI; simp only at hc
     cases Ia : r.agg with
     | true => rw [Ia] at hc; cases hc
     | false =>
       rw [Ia] at hc
       cases hc
       refine ⟨[a.eval (.tmp t)], a.eval (.tmp t), ⟨rfl, fun i y z hy hz => ?_⟩, rfl, .inl ⟨fun t' e' => (by rw [hs] at e'; cases e'), .inr ⟨rfl, rfl⟩⟩⟩
       cases i with
       | zero => simp at hy hz; subst hy hz; exact qI
       | succ i => simp at hy
 | cell t ty =>
   obtain ⟨hs, h1, h2⟩ := hr; rw [hs] at hc; have qI := h.eL t; simp only at hc
   cases hv : bI st t with
   | kR _ => rw [hv] at hc; cases hc
   | agg l => rw [hv] at hc; cases hc
   | one x =>
     cases x with
     | ptr b g off =>
       rw [hv] at hc qI; obtain ⟨ho, hb⟩ := aD hc; have ho := Nat.eq_of_beq_eq_true ho; subst ho; obtain ⟨sl, k1, k2, k3⟩ := fG hb; obtain ⟨q1, vs, ty', q2, q3⟩ := h.boxes b sl cs k1 k3; have e : a.tmps.getD t undef = .pointer (some ⟨c.bx b, 0, none⟩) := qI.2.2 cs hb; have Qv : w.rangeAt (c.bx b) 0 vs.toList := by
         have := yy (off := 0) q2 vs.toList.length
         rwa [List.drop_zero, List.take_length] at this
       have hlen : vs.toList.length = r.ps.length := by rw [← q3.1, hn]
       have mo := pZ (P := P) hT h1 w (c.bx b) 0 vs.toList Qv hlen; refine ⟨vs.toList, valOf (T.agg ty) vs.toList, q3, ?_, .inl ⟨fun t' e' => (by rw [hs] at e'; cases e'), ?_⟩⟩
       · simp [Az, e, asAddr, Sem.run_bind, mo]
       · rw [h2]
         cases Ia : r.agg with
         | true => exact .inl ⟨rfl, by simp [valOf]⟩
         | false =>
           obtain ⟨_, _, _, Da⟩ := hT.agg ty _ h1; have h3 := Da (by rw [h2, Ia]); refine .inr ⟨rfl, ?_⟩; have : vs.toList.length = 1 := by rw [hlen, h3]
           cases wS : vs.toList with
           | nil => rw [wS] at this; cases this
           | cons x l => cases l with
             | nil => rfl
             | cons _ _ => rw [wS] at this; simp at this
     | _ => rw [hv] at hc; cases hc
end Go.TM
namespace Go.TM
open Go Go.RowKit
def vF (T : jq) (tm : Array Value) : List ResultVar → List RP → Prop
 | [], [] => True
 | v :: vs, r :: rs => K2 T tm v r ∧ vF T tm vs rs
 | _, _ => False
theorem Cx {P : Program} {T : jq} (hT : fq P T) {w0 : World} {mu : Mu} {c : Cz} {st : St} {a : Act} {w : World} (h : Rel w0 mu c st a w) : (T9 : List ResultVar) → (rs : List RP) → vF T a.tmps T9 rs → (t : RT) → (y : ak t) → {x : ak (bQ rs t)} → {u : List (Option Lb)} → {r : List (Nat × Nat)} → Ay st rs t y = some (x, u, r) →
   (eS rs t x).2 = y ∧ (eS rs t x).1.length = rs.length ∧ (∀ l ∈ bq u, l.real = true) ∧ ∃ vals : List Value, (T9.mapM (Az a.tmps)).run P w = .ok vals w ∧ vals.length = T9.length ∧
     ∀ (ρ : Lb → Option Lb) (j : Nat), (∀ k l, nth u k = some (some l) → ρ l = some (.gj (j + k))) → (∀ p ∈ r, ρ (.sp p.1 p.2) = none) → jC (c.map ρ) w j (eS rs t x).1 vals
 | [], [], _, t, y, x, u, r, he => by
   injection he with he; injection he with e1 e2; injection e2 with e2 e3; subst e1 e2 e3; exact ⟨rfl, rfl, by simp [bq], [], rfl, rfl, fun _ _ _ _ => rfl⟩
 | [], _ :: _, hf, _, _, _, _, _, _ => hf.elim
 | _ :: _, [], hf, _, _, _, _, _, _ => hf.elim
 | rv :: T9, rr :: rs, hf, t, y, x, u, r, he => by
   unfold Ay at he; obtain ⟨cs, hc, he⟩ := Option.bind_eq_some_iff.1 he; obtain ⟨q, hq, he⟩ := Option.bind_eq_some_iff.1 he; obtain ⟨p, hp, he⟩ := Option.map_eq_some_iff.1 he; obtain ⟨x2, u2, r2⟩ := q; obtain ⟨x1, u1, r1⟩ := p; injection he with e1 e2; injection e2 with e2 e3; subst e1 e2 e3; obtain ⟨l1, l2, l3⟩ := Cw rr.ps _ cs _ hp; obtain ⟨vs, v, g1, g2, g3⟩ := RP.K3 hT h hf.1 hc l2; obtain ⟨k1, k2, k3, vals, k4, k5, k6⟩ := Cx hT h T9 rs hf.2 t y hq; have h0 := fun (ρ : Lb → Option Lb) (j : Nat) => tH h (ρ := ρ) (f := .gj) rr.ps (bQ rs t) cs x2 vs j g1 hp
   have e0 := (h0 (fun _ => none) 0).1; refine ⟨?_, ?_, fun l hl => ?_, v :: vals, ?_, by simp [k5], fun ρ j hu hr => ?_⟩
   · show (eS rs t (cL rr.ps (bQ rs t) x1).2).2 = y; rw [e0]; exact k1
   · show (eS rs t (cL rr.ps (bQ rs t) x1).2).1.length + 1 = _; rw [e0, k2]; rfl
   · rw [fx] at hl; rcases List.mem_append.1 hl with hl | hl
     · unfold RP.SD at hl
       split at hl
       · split at hl
         · simp only [List.mem_singleton, Option.some.injEq] at hl; subst hl; rfl
         · cases hl
       · cases hl
     · rcases List.mem_append.1 hl with hl | hl
       · exact (h0 (fun _ => none) 0).2.1 l (fx.2 hl)
       · exact k3 l (fx.2 hl)
   · rw [List.mapM_cons]; simp [Sem.run_bind, g2, k4]
   · have e : (eS (rr :: rs) t x1).1 = rr.rv (cL rr.ps (bQ rs t) x1).1 :: (eS rs t x2).1 := by
       show rr.rv (cL rr.ps (bQ rs t) x1).1 :: (eS rs t (cL rr.ps (bQ rs t) x1).2).1 = _; rw [e0]
     show jC (c.map ρ) w j (eS (rr :: rs) t x1).1 (v :: vals); rw [e]; rcases g3 with ⟨hnp, g3⟩ | ⟨tt, b, ty, us, Qw, Qx, hv, fh, KG, wS⟩
     · have Qx : rr.SD st = [] := by
         unfold RP.SD
         split
         · rename_i t' e'; exact absurd e' (hnp t')
         · rfl
       rw [Qx, List.nil_append] at hu; have hL := (h0 ρ j).2.2 (fun k l hk => hu k l (by
         rw [kh, if_pos (C3 hk)]; exact hk)) (fun p hp => hr p (List.mem_append_left _ hp))
       have ey := k6 ρ (j + rr.ps.length) (fun k l hk => by
         have := hu (rr.ps.length + k) l (by rw [kh, l1, if_neg (by omega), Nat.add_sub_cancel_left]; exact hk); rw [Nat.add_assoc]; exact this) (fun p hp => hr p (List.mem_append_right _ hp))
       have hrv : ∀ os, rr.rv os = (match rr.agg, os with | false, [o] => RV.one o | _, os => RV.agg os) := by
         intro os; unfold RP.rv
         split
         · rename_i t' e'; exact absurd e' (hnp t')
         · rfl
       rcases g3 with ⟨ha, rfl⟩ | ⟨ha, rfl⟩
       · have er : rr.rv (cL rr.ps (bQ rs t) x1).1 = .agg (cL rr.ps (bQ rs t) x1).1 := by rw [hrv, ha]
         rw [er]; exact ⟨vs.toArray, vals, rfl, by simpa using hL, by rw [l3]; exact ey⟩
       · have hlen : cs.length = 1 := g1.1; have : (cL rr.ps (bQ rs t) x1).1.length = 1 := by rw [l3, ← l2, hlen]
         cases ho : (cL rr.ps (bQ rs t) x1).1 with
         | nil => rw [ho] at this; cases this
         | cons o l => cases l with
           | cons _ _ => rw [ho] at this; simp at this
           | nil =>
             have er : rr.rv [o] = .one o := by rw [hrv, ha]
             rw [er]; rw [ho] at hL; refine ⟨v, vals, rfl, hL, ?_⟩; rw [← l2, hlen] at ey; exact ey
     · rw [Qx] at hu; have hb := hu 0 (.box b) rfl; have hL := (h0 ρ (j + 1)).2.2 (fun k l hk => by
         have := hu (k + 1) l (by
           show nth (u1 ++ u2) k = _; rw [kh, if_pos (C3 hk)]; exact hk)
         rwa [show j + (k + 1) = j + 1 + k by omega] at this) (fun p hp => hr p (List.mem_append_left _ hp))
       have ey := k6 ρ (j + (rr.ps.length + 1)) (fun k l hk => by
         have := hu (rr.ps.length + k + 1) l (by
           show nth (u1 ++ u2) (rr.ps.length + k) = _; rw [kh, l1, if_neg (by omega), Nat.add_sub_cancel_left]; exact hk)
         rwa [show j + (rr.ps.length + k + 1) = j + (rr.ps.length + 1) + k by omega] at this) (fun p hp => hr p (List.mem_append_right _ hp))
       have er : rr.rv (cL rr.ps (bQ rs t) x1).1 = .ptr (cL rr.ps (bQ rs t) x1).1 := by unfold RP.rv; rw [Qw]
       rw [er]; subst wS; refine ⟨v, vals, rfl, ⟨c.bx b, us, ty, hv, ?_, KG, hL⟩, by rw [l3]; exact ey⟩; rw [Nat.add_zero] at hb; exact (Cz.iS fh).trans hb
def Dh (mu : Mu) (lc : Nat → Nat → Loc) (i : Nat) (ps : List AP) (cM : List AV) (vs : List Value) : Prop :=
 ∀ (k : Nat) (p : AP) (av : AV) (v : Value), ps[k]? = some p → cM[k]? = some av → vs[k]? = some v → match p, av with
   | .io _ _, .io A => v.oneCell' = true ∧ gN (lc (i + k) 0) A.r.width 0 A.xs.length v ∧ IE.arr (i + k) 0 1 A.r.width A.xs.length (lc (i + k) 0) ∈ mu.an
   | .box _ _, .box _ => ∃ lH, v = .pointer (some ⟨lH, 0, none⟩) ∧ IE.box (i + k) 1 lH ∈ mu.an
   | .val _ _, .val _ _ => True
   | .bo qs, .bo os => ∃ us, v = .agg us ∧ ∀ j A, os[j]? = some (.own A) → (∃ r d, qs[j]? = some (.own r d)) ∧ ∃ u, us.toList[j]? = some u ∧ u.oneCell' = true ∧ gN (lc (i + k) j) A.r.width 0 A.xs.length u ∧ IE.arr (i + k) j 1 A.r.width A.xs.length (lc (i + k) j) ∈ mu.an
   | _, _ => False
theorem qL {w0 : World} {mu : Mu} {c : Cz} {st : St} {a : Act} {w : World} (h : Rel w0 mu c st a w) {lc : Nat → Nat → Loc} : (ps : List AP) → (i : Nat) → (cM : List AV) → (vs : List Value) → ps.length = cM.length → ps.length = vs.length → Dh mu lc i ps cM vs → {x : ak (ba ps)} → {u : List Lb} → {r : List (Nat × Nat)} → qt st i ps = some (x, u, r) →
   (∀ l ∈ u, l.real = true) ∧ ∃ tb : List (Lb × Lb), tb.map (·.1) = u ∧ (∀ p ∈ tb, p.2.iM = true) ∧ ∀ ρ : Lb → Option Lb, (∀ p ∈ tb, ρ p.1 = some p.2) → (∀ p ∈ r, ρ (.sp p.1 p.2) = none) → fX (c.map ρ) w lc i cM vs (kn ps x)
 | [], i, cM, vs, h1, h2, _, x, u, r, he => by
   injection he with he; injection he with e1 e2; injection e2 with e2 e3; subst e2 e3; have : cM = [] := by simpa using h1.symm
   subst this; exact ⟨by simp, [], rfl, by simp, fun _ _ _ => rfl⟩
 | p :: ps, i, [], vs, h1, _, _, _, _, _, _ => by simp at h1
 | p :: ps, i, _ :: _, [], _, h2, _, _, _, _, _ => by simp at h2
 | p :: ps, i, av :: cM, v :: vs, h1, h2, hl, x, u, r, he => by
   have u6 : Dh mu lc (i + 1) ps cM vs := fun k p' H6 v' e1 e2 e3 => by
     have := hl (k + 1) p' H6 v' (by simpa using e1) (by simpa using e2) (by simpa using e3)
     rwa [show i + (k + 1) = i + 1 + k by omega] at this
   have Xq : ps.length = cM.length := by simpa using h1
   have Xr : ps.length = vs.length := by simpa using h2
   have h0 := hl 0 p av v rfl rfl rfl
   cases p with
   | val agg qs =>
     cases av with
     | val NI os =>
       obtain ⟨g1, tb, g2, g3, g4⟩ := qL h ps (i + 1) cM vs Xq Xr u6 he; exact ⟨g1, tb, g2, g3, fun ρ hp hr => g4 ρ hp hr⟩
     | io _ => exact h0.elim
     | box _ => exact h0.elim
     | bo _ => exact h0.elim
   | io rr dd =>
     cases av with
     | val _ _ => exact h0.elim
     | box _ => exact h0.elim
     | bo _ => exact h0.elim
     | io A =>
       obtain ⟨q1, q2, q3⟩ := h0; simp only [Nat.add_zero] at q2 q3; unfold qt at he; obtain ⟨q, hq, he⟩ := Option.bind_eq_some_iff.1 he; obtain ⟨p, hp, he⟩ := Option.map_eq_some_iff.1 he; obtain ⟨x2, u2, r2⟩ := q; obtain ⟨x1, u1, r1⟩ := p; injection he with e1 e2; injection e2 with e2 e3; subst e1 e2 e3; obtain ⟨g1, tb, g2, g3, g4⟩ := qL h ps (i + 1) cM vs Xq Xr u6 hq; have NK := h.dH _ q3; have hV : dS c st w (.one (.ref i 0 1 .full)) v := ⟨q1, NK.1, fun A' dI => by
         obtain ⟨e1, e2, e3⟩ := NK.2 A' dI; rw [e1, e3]; show gN (lc i 0) A.r.width 0 A'.xs.length v; rw [e2]; exact q2⟩
       obtain ⟨a1, a2, ta, a3, a4, a5⟩ := xh h i hV hp; obtain ⟨A', dI, Ua⟩ : ∃ A', aQ st i 0 1 = some A' ∧ ∃ xs, bn rr A'.xs = some xs ∧ x1.1 = xs := by
         have hp : (bif Nat.beq i i && (Nat.beq 0 0 && Nat.beq 1 1) then ((aQ st i 0 1).bind fun A => bif A.own && A.md.is dd then (bn rr A.xs).map fun xs => ((xs, x2), [Lb.sp i 0], ([] : List (Nat × Nat))) else none) else none) = some (x1, u1, r1) := hp; obtain ⟨_, hp1⟩ := aD hp; obtain ⟨A', dI, Yi⟩ := Option.bind_eq_some_iff.1 hp1; obtain ⟨_, hp3⟩ := aD Yi; obtain ⟨xs, OS, e⟩ := Option.map_eq_some_iff.1 hp3; injection e with e _; exact ⟨A', dI, xs, OS, by rw [← e]⟩
       obtain ⟨xs, OS, ex⟩ := Ua; obtain ⟨e1, e2, e3⟩ := NK.2 A' dI; refine ⟨fun l hl => ?_, ta ++ tb, by simp [a3, g2], fun p hp => ?_, fun ρ hp hr => ?_⟩
       · rcases List.mem_append.1 hl with hl | hl
         · exact a2 l hl
         · exact g1 l hl
       · rcases List.mem_append.1 hp with hp | hp
         · exact a4 p hp
         · exact g3 p hp
       · have SE := a5 ρ (fun p jd => hp p (List.mem_append_left _ jd)) (fun p jd => hr p (List.mem_append_left _ jd)); have ey := g4 ρ (fun p jd => hp p (List.mem_append_right _ jd)) (fun p jd => hr p (List.mem_append_right _ jd)); have SE : OwnAt (c.map ρ) w (.bA i 0) (c.lc i 0) { r := rr, own := true, xs := x1.1, md := dd } v := SE; rw [e3] at SE; obtain ⟨er, JZ⟩ := aX OS; refine ⟨{ r := rr, own := true, xs := x1.1, md := dd }, kn ps x1.2, rfl, ?_, ?_, SE, ?_⟩
         · show rr.width = A.r.width; rw [← er]; exact e1
         · show List.length (x1.1 : List (ak rr)) = A.xs.length; rw [ex, JZ, ← e2]
           cases er
           rfl
         · have : x1.2 = x2 := a1; rw [this]; exact ey
   | bo qs =>
     cases av with
     | val _ _ => exact h0.elim
     | io _ => exact h0.elim
     | box _ => exact h0.elim
     | bo os =>
       obtain ⟨us, rfl, q1⟩ := h0; simp only [Nat.add_zero] at q1; unfold qt at he; obtain ⟨q, hq, he⟩ := Option.bind_eq_some_iff.1 he; obtain ⟨p, hp, he⟩ := Option.map_eq_some_iff.1 he; obtain ⟨x2, u2, r2⟩ := q; obtain ⟨x1, u1⟩ := p; injection he with e1 e2; injection e2 with e2 e3; subst e1 e2 e3; obtain ⟨g1, tb, g2, g3, g4⟩ := qL h ps (i + 1) cM vs Xq Xr u6 hq; obtain ⟨a1, a2, a3⟩ := gX qs 0 (ba ps) x2 hp
       let f : Lb → Lb × Lb := fun l => (l, match l with | .sp x y => .bA x y | l => l)
       refine ⟨fun l hl => ?_, u1.map f ++ tb, ?_, fun p hp => ?_, fun ρ hp hr => ?_⟩
       · rcases List.mem_append.1 hl with hl | hl
         · obtain ⟨k, rfl⟩ := a2 l hl; rfl
         · exact g1 l hl
       · rw [List.map_append, List.map_map, g2]
         congr 1
         exact List.map_id u1
       · rcases List.mem_append.1 hp with hp | hp
         · obtain ⟨l, hl, rfl⟩ := List.mem_map.1 hp; obtain ⟨k, rfl⟩ := a2 l hl; rfl
         · exact g3 p hp
       · have ey := g4 ρ (fun p jd => hp p (List.mem_append_right _ jd)) hr; refine ⟨(kC qs (ba ps) x1).1, kn ps (kC qs (ba ps) x1).2, rfl, ⟨us, rfl, fun j A hj => ?_⟩, by rw [a1]; exact ey⟩; obtain ⟨⟨r, dd, YL⟩, u, b1, b2, b3, b4⟩ := q1 j A hj; obtain ⟨A', xs, c1, c2, cd, c3, c4, c5⟩ := a3 j r dd YL; rw [Nat.zero_add] at c1 c5; obtain ⟨e1, e2, e3⟩ := (h.dH _ b4).2 A' c1; obtain ⟨er, JZ⟩ := aX c3; have ha := uB h c1; have hρ : ρ (.sp i j) = some (.bA i j) := hp (.sp i j, .bA i j) (List.mem_append_left _ (List.mem_map.2 ⟨_, c5, rfl⟩)); have hw : r.width = A.r.width := by rw [← er]; exact e1
         have hn : xs.length = A.xs.length := by
           rw [← e2, JZ]
           cases er
           rfl
         refine ⟨_, u, c4, b1, hw, hn, b2, ?_, rfl, ?_⟩
         · show gN (lc i j) r.width 0 xs.length u; rw [hw, hn]; exact b3
         · show match lc i j with
             | .nil => xs = []
             | .at b off cap => _
           obtain ⟨rA, ad9, xsA, mdA⟩ := A'; simp only at er c2 cd; subst er c2 cd; have JZ : xs = xsA := JZ; subst JZ; unfold bz at ha; have e3 : c.lc i j = lc i j := e3; rw [e3] at ha
           cases gn : lc i j with
           | nil => rw [gn] at ha; exact ha
           | «at» b off cap =>
             rw [gn] at ha; obtain ⟨k0, k2, k3, k4⟩ := ha; exact ⟨(Cz.iS k0).trans hρ, k2, k3, k4.map hρ⟩
   | box CY qs =>
     cases av with
     | val _ _ => exact h0.elim
     | io _ => exact h0.elim
     | bo _ => exact h0.elim
     | box os =>
       obtain ⟨lH, q1, q2⟩ := h0; simp only [Nat.add_zero] at q2; unfold qt at he; obtain ⟨q, hq, he⟩ := Option.bind_eq_some_iff.1 he; obtain ⟨p, hp, he⟩ := Option.map_eq_some_iff.1 he; obtain ⟨x2, u2, r2⟩ := q; obtain ⟨x1, u1, r1⟩ := p; injection he with e1 e2; injection e2 with e2 e3; subst e1 e2 e3; obtain ⟨g1, tb, g2, g3, g4⟩ := qL h ps (i + 1) cM vs Xq Xr u6 hq; have NK := h.dH _ q2; have hV : dS c st w (.one (.ptr i 1 0)) v := ⟨by rw [q1]; rfl, NK.1, fun cs th => by rw [NK.2 cs th, q1]⟩; obtain ⟨a1, a2, ta, a3, a4, a5⟩ := xh h i hV hp; refine ⟨fun l hl => ?_, ta ++ tb, by simp [a3, g2], fun p hp => ?_, fun ρ hp hr => ?_⟩
       · rcases List.mem_append.1 hl with hl | hl
         · exact a2 l hl
         · exact g1 l hl
       · rcases List.mem_append.1 hp with hp | hp
         · exact a4 p hp
         · exact g3 p hp
       · have SE := a5 ρ (fun p jd => hp p (List.mem_append_left _ jd)) (fun p jd => hr p (List.mem_append_left _ jd)); have ey := g4 ρ (fun p jd => hp p (List.mem_append_right _ jd)) (fun p jd => hr p (List.mem_append_right _ jd)); refine ⟨(cL qs (ba ps) x1).1, kn ps (cL qs (ba ps) x1).2, rfl, SE, ?_⟩; have : (cL qs (ba ps) x1).2 = x2 := a1; rw [this]; exact ey
end Go.TM
namespace Go.TM
open Go Go.RowKit
def start (n : Nat) (ps : List AP) (x : ak (ar (ps.map some))) : St := lI 0 (bM (ps.map some) x ++ List.replicate (n + 1 - ps.length) none)
theorem nV : (l : List (Option AP)) → (x : ak (ar l)) → (bM l x).length = l.length
 | [], _ => rfl
 | none :: l, x => by
   show (bM l x).length + 1 = l.length + 1; rw [nV l x]
 | some p :: l, x => by
   show (bM l (p.av (ar l) x).2).length + 1 = l.length + 1; rw [nV l _]
theorem uE {c : Cz} {w : World} {lc : Nat → Nat → Loc} : (ps : List AP) → (i : Nat) → (cM : List AV) → (vs : List Value) → {x : ak (ar (ps.map some))} → ek ps cM = some x → vC c w lc i cM vs →
   ps.length = cM.length ∧ ps.length = vs.length ∧ ∀ k av, (bM (ps.map some) x)[k]? = some (some av) → ∃ v, vs[k]? = some v ∧ p9 c w (i + k) (lc (i + k)) av v
 | [], i, [], vs, x, hx, h => by
   have : vs = [] := h; subst this; exact ⟨rfl, rfl, fun k av hk => by
     have hk : ([] : List (Option AV))[k]? = some (some av) := hk; simp at hk⟩
 | [], _, _ :: _, _, _, hx, _ => by simp [ek] at hx
 | _ :: _, _, [], _, _, hx, _ => by simp [ek] at hx
 | p :: ps, i, av :: cM, vs, x, hx, h => by
   obtain ⟨v, l, rfl, h1, h2⟩ := h; unfold ek at hx
   cases hy : ek ps cM with
   | none => simp [hy] at hx
   | some y =>
     simp only [hy] at hx; obtain ⟨g1, g2, g3⟩ := uE ps (i + 1) cM l hy h2; obtain ⟨q1, q2⟩ := EL (c := c) (w := w) (i := i) (lc := lc i) hx; refine ⟨by simp [g1], by simp [g2], fun k H6 hk => ?_⟩
     cases k with
     | zero =>
       have hk : some (some (p.av (ar (ps.map some)) x).1) = some (some H6) := hk; simp only [Option.some.injEq] at hk; subst hk; exact ⟨v, rfl, q2 v h1⟩
     | succ k =>
       have hk : (bM (ps.map some) (p.av (ar (ps.map some)) x).2)[k]? = some (some H6) := hk; rw [q1] at hk; obtain ⟨v', h3, h4⟩ := g3 k H6 hk; exact ⟨v', by simpa using h3, by rw [show i + (k + 1) = i + 1 + k by omega]; exact h4⟩
def gO (lc : Nat → Loc) (i : Nat) : (j : Nat) → List OV → List IE
 | _, [] => []
 | j, .own A :: os => .arr i j 1 A.r.width A.xs.length (lc j) :: gO lc i (j + 1) os
 | j, .int _ _ :: os => gO lc i (j + 1) os
 | j, .bool _ :: os => gO lc i (j + 1) os
 | j, .str _ :: os => gO lc i (j + 1) os
 | j, .shr _ _ :: os => gO lc i (j + 1) os
 | j, .jY _ _ :: os => gO lc i (j + 1) os
 | j, .fn _ _ _ :: os => gO lc i (j + 1) os
 | j, .dg :: os => gO lc i (j + 1) os
theorem xk {lc : Nat → Loc} {i : Nat} : (os : List OV) → (j : Nat) → ∀ p ∈ gO lc i j os, ∃ k A, os[k]? = some (.own A) ∧ p = .arr i (j + k) 1 A.r.width A.xs.length (lc (j + k))
 | [], j, p, h => by simp [gO] at h
 | o :: os, j, p, h => by
   have rest : p ∈ gO lc i (j + 1) os → ∃ k A, (o :: os)[k]? = some (.own A) ∧ p = .arr i (j + k) 1 A.r.width A.xs.length (lc (j + k)) := by
     intro h; obtain ⟨k, A, h1, h2⟩ := xk os (j + 1) p h; refine ⟨k + 1, A, by simpa using h1, ?_⟩; rw [h2, show j + 1 + k = j + (k + 1) by omega]
   cases o with
   | own A =>
     rcases List.mem_cons.1 h with h | h
     · exact ⟨0, A, rfl, h⟩
     · exact rest h
   | _ => exact rest h
theorem yQ {lc : Nat → Loc} {i : Nat} : (os : List OV) → (j : Nat) → ∀ (k : Nat) (A : fT), os[k]? = some (.own A) → IE.arr i (j + k) 1 A.r.width A.xs.length (lc (j + k)) ∈ gO lc i j os
 | [], j, k, A, h => by simp at h
 | o :: os, j, 0, A, h => by
   simp only [List.getElem?_cons_zero, Option.some.injEq] at h; subst h; exact List.mem_cons_self
 | o :: os, j, k + 1, A, h => by
   have := yQ (lc := lc) (i := i) os (j + 1) k A (by simpa using h); rw [show j + 1 + k = j + (k + 1) by omega] at this
   cases o with
   | own A => exact List.mem_cons_of_mem _ this
   | _ => exact this
def AA (lc : Nat → Nat → Loc) : (i : Nat) → List AV → List Value → List IE
 | _, [], _ => []
 | _, _ :: _, [] => []
 | i, .val _ _ :: as, _ :: vs => AA lc (i + 1) as vs
 | i, .io A :: as, _ :: vs => .arr i 0 1 A.r.width A.xs.length (lc i 0) :: AA lc (i + 1) as vs
 | i, .bo os :: as, _ :: vs => gO (lc i) i 0 os ++ AA lc (i + 1) as vs
 | i, .box _ :: as, v :: vs => .box i 1 (match v with | .pointer (some ad) => ad.block | _ => 0) :: AA lc (i + 1) as vs
theorem qM {lc : Nat → Nat → Loc} : (i : Nat) → (as : List AV) → (vs : List Value) → ∀ p ∈ AA lc i as vs, ∃ k av v, as[k]? = some av ∧ vs[k]? = some v ∧ ((∃ A, av = .io A ∧ p = .arr (i + k) 0 1 A.r.width A.xs.length (lc (i + k) 0)) ∨ (∃ os, av = .box os ∧ p = .box (i + k) 1 (match v with | .pointer (some ad) => ad.block | _ => 0)) ∨ ∃ os j A, av = .bo os ∧ os[j]? = some (.own A) ∧ p = .arr (i + k) j 1 A.r.width A.xs.length (lc (i + k) j))
 | _, [], _, p, h => by simp [AA] at h
 | _, _ :: _, [], p, h => by simp [AA] at h
 | i, .val _ _ :: as, _ :: vs, p, h => by
   obtain ⟨k, av, v, h1, h2, h3⟩ := qM (i + 1) as vs p h; exact ⟨k + 1, av, v, by simpa using h1, by simpa using h2, by rw [show i + (k + 1) = i + 1 + k by omega]; exact h3⟩
 | i, .io A :: as, v0 :: vs, p, h => by
   rcases List.mem_cons.1 h with h | h
   · exact ⟨0, .io A, v0, rfl, rfl, .inl ⟨A, rfl, h⟩⟩
   · obtain ⟨k, av, v, h1, h2, h3⟩ := qM (i + 1) as vs p h; exact ⟨k + 1, av, v, by simpa using h1, by simpa using h2, by rw [show i + (k + 1) = i + 1 + k by omega]; exact h3⟩
 | i, .box os :: as, v0 :: vs, p, h => by
   rcases List.mem_cons.1 h with h | h
   · exact ⟨0, .box os, v0, rfl, rfl, .inr (.inl ⟨os, rfl, h⟩)⟩
   · obtain ⟨k, av, v, h1, h2, h3⟩ := qM (i + 1) as vs p h; exact ⟨k + 1, av, v, by simpa using h1, by simpa using h2, by rw [show i + (k + 1) = i + 1 + k by omega]; exact h3⟩
 | i, .bo os :: as, v0 :: vs, p, h => by
   rcases List.mem_append.1 h with h | h
   · obtain ⟨j, A, h1, h2⟩ := xk os 0 p h; rw [Nat.zero_add] at h2; exact ⟨0, .bo os, v0, rfl, rfl, .inr (.inr ⟨os, j, A, rfl, h1, h2⟩)⟩
   · obtain ⟨k, av, v, h1, h2, h3⟩ := qM (i + 1) as vs p h; exact ⟨k + 1, av, v, by simpa using h1, by simpa using h2, by rw [show i + (k + 1) = i + 1 + k by omega]; exact h3⟩
theorem Ib {lc : Nat → Nat → Loc} : (i : Nat) → (as : List AV) → (vs : List Value) → as.length = vs.length → ∀ k av v, as[k]? = some av → vs[k]? = some v → (∀ A, av = .io A → IE.arr (i + k) 0 1 A.r.width A.xs.length (lc (i + k) 0) ∈ AA lc i as vs) ∧ (∀ os, av = .box os → IE.box (i + k) 1 (match v with | .pointer (some ad) => ad.block | _ => 0) ∈ AA lc i as vs) ∧ (∀ os, av = .bo os → ∀ j A, os[j]? = some (.own A) → IE.arr (i + k) j 1 A.r.width A.xs.length (lc (i + k) j) ∈ AA lc i as vs)
 | _, [], _, _, k, av, v, h, _ => by simp at h
 | _, _ :: _, [], hn, _, _, _, _, _ => by simp at hn
 | i, a0 :: as, v0 :: vs, hn, 0, av, v, h1, h2 => by
   simp only [List.getElem?_cons_zero, Option.some.injEq] at h1 h2; subst h1 h2; refine ⟨fun A e => ?_, fun os e => ?_, fun os e j A hj => ?_⟩
   · subst e; exact List.mem_cons_self
   · subst e; exact List.mem_cons_self
   · subst e; have := yQ (lc := lc i) (i := i) os 0 j A hj; rw [Nat.zero_add] at this; exact List.mem_append_left _ this
 | i, a0 :: as, v0 :: vs, hn, k + 1, av, v, h1, h2 => by
   obtain ⟨g1, g2, g3⟩ := Ib (i + 1) as vs (by simpa using hn) k av v (by simpa using h1) (by simpa using h2); have e : i + (k + 1) = i + 1 + k := by omega
   rw [e]
   cases a0 with
   | val _ _ => exact ⟨g1, g2, g3⟩
   | io _ => exact ⟨fun A h => List.mem_cons_of_mem _ (g1 A h), fun os h => List.mem_cons_of_mem _ (g2 os h), fun os h j A hj => List.mem_cons_of_mem _ (g3 os h j A hj)⟩
   | box _ => exact ⟨fun A h => List.mem_cons_of_mem _ (g1 A h), fun os h => List.mem_cons_of_mem _ (g2 os h), fun os h j A hj => List.mem_cons_of_mem _ (g3 os h j A hj)⟩
   | bo _ => exact ⟨fun A h => List.mem_append_right _ (g1 A h), fun os h => List.mem_append_right _ (g2 os h), fun os h j A hj => List.mem_append_right _ (g3 os h j A hj)⟩
def j5 (ps : List AP) (mu : Mu) : Prop :=
 ∀ p ∈ mu.an, (∃ i r W n l, p = .arr i 0 1 W n l ∧ ∃ d, ps[i]? = some (.io r d)) ∨ (∃ i lH b qs, p = .box i 1 lH ∧ ps[i]? = some (.box b qs)) ∨ ∃ i j W n l qs, p = .arr i j 1 W n l ∧ ps[i]? = some (.bo qs)
theorem AB : (ps : List OP) → (t : RT) → (os : List OV) → (y : ak t) → {x : ak (jP ps t)} → cB ps t os y = some x → ∀ (j : Nat) (A : fT), os[j]? = some (.own A) → (∃ r d, ps[j]? = some (.own r d)) ∧ ∃ B : fT, (cL ps t x).1[j]? = some (.own B) ∧ B.r.width = A.r.width ∧ B.xs.length = A.xs.length
 | [], t, [], y, x, h => by intro k A hk; simp at hk
 | [], _, _ :: _, _, _, h => by simp [cB] at h
 | _ :: _, _, [], _, _, h => by simp [cB] at h
 | p :: ps, t, o :: os, y, x, h => by
   unfold cB at h
   cases h1 : oW p o with
   | none => simp [h1] at h
   | some a =>
     cases h2 : cB ps t os y with
     | none => simp [h1, h2] at h
     | some z =>
       simp only [h1, h2] at h; have h : (a, z) = x := Option.some.inj h; subst h; intro j A hj
       cases j with
       | succ j =>
         obtain ⟨⟨r, d, q1⟩, B, q2, q3⟩ := AB ps t os y h2 j A (by simpa using hj); exact ⟨⟨r, d, by simpa using q1⟩, B, (by show (cL ps t z).1[j]? = _; exact q2), q3⟩
       | zero =>
         simp only [List.getElem?_cons_zero, Option.some.injEq] at hj; subst hj
         cases p with
         | own r d =>
           have h1 : (bif A.md.is d then bn r A.xs else none) = some a := h1; obtain ⟨_, h1⟩ := aD h1; obtain ⟨er, JZ⟩ := aX h1; refine ⟨⟨r, d, rfl⟩, { r := r, own := true, xs := a, md := d }, rfl, by show r.width = _; rw [← er], ?_⟩; show List.length (a : List (ak r)) = _; rw [JZ]
           cases er
           rfl
         | _ => cases h1
theorem yR : (ps : List AP) → (cM : List AV) → {x : ak (ar (ps.map some))} → ek ps cM = some x → ∀ (k : Nat) (av : AV), cM[k]? = some av → ∃ p : AP, ps[k]? = some p ∧ match p, av with
   | .io _ _, .io A => ∃ B : fT, (bM (ps.map some) x)[k]? = some (some (.io B)) ∧ B.r.width = A.r.width ∧ B.xs.length = A.xs.length
   | .box _ _, .box _ => True
   | .val _ _, .val _ _ => True
   | .bo qs, .bo os => ∃ w6 : List OV, (bM (ps.map some) x)[k]? = some (some (AV.bo w6)) ∧ ∀ (j : Nat) (A : fT), os[j]? = some (OV.own A) → (∃ r d, qs[j]? = some (OP.own r d)) ∧ ∃ B : fT, w6[j]? = some (OV.own B) ∧ B.r.width = A.r.width ∧ B.xs.length = A.xs.length
   | _, _ => False
 | [], [], _, _ => by intro k av h; simp at h
 | [], _ :: _, _, hx => by simp [ek] at hx
 | _ :: _, [], _, hx => by simp [ek] at hx
 | p :: ps, av :: cM, x, hx => by
   unfold ek at hx
   cases hy : ek ps cM with
   | none => simp [hy] at hx
   | some y =>
     simp only [hy] at hx; have e2 : (p.av (ar (ps.map some)) x).2 = y := (EL (c := ⟨fun _ => 0, fun _ _ => .nil, fun _ => none⟩) (w := default) (i := 0) (lc := fun _ => .nil) hx).1; intro k H6 hk
     cases k with
     | zero =>
       simp only [List.getElem?_cons_zero, Option.some.injEq] at hk; subst hk; refine ⟨p, rfl, ?_⟩
       cases p with
       | val agg qs => cases av with
         | val _ _ => trivial
         | io _ => cases agg <;> cases hx
         | box _ => cases agg <;> cases hx
         | bo _ => cases agg <;> cases hx
       | io r d => cases av with
         | val _ _ => cases hx
         | box _ => cases hx
         | bo _ => cases hx
         | io A =>
           have hx : (bif A.md.is d then (match bn r A.xs with | some xs => some ((xs, y) : ak (.cons (.sl r) (ar (ps.map some)))) | none => none) else none) = some x := hx; obtain ⟨_, hx⟩ := aD hx
           cases hc : bn r A.xs with
           | none => rw [hc] at hx; cases hx
           | some xs =>
             rw [hc] at hx; injection hx with hx; obtain ⟨er, JZ⟩ := aX hc; refine ⟨{ r := r, own := true, xs := x.1, md := d }, rfl, by show r.width = _; rw [← er], ?_⟩; show List.length (x.1 : List (ak r)) = _; rw [← hx]; show xs.length = _; rw [JZ]
             cases er
             rfl
       | box b qs => cases av with
         | val _ _ => cases hx
         | io _ => cases hx
         | bo _ => cases hx
         | box _ => trivial
       | bo qs => cases av with
         | val _ _ => cases hx
         | io _ => cases hx
         | box _ => cases hx
         | bo os =>
           have hx : cB qs (ar (ps.map some)) os y = some x := hx; exact ⟨_, rfl, AB qs _ os y hx⟩
     | succ k =>
       obtain ⟨p', h1, h2⟩ := yR ps cM hy k H6 (by simpa using hk); refine ⟨p', by simpa using h1, ?_⟩; have eh : (bM ((p :: ps).map some) x)[k + 1]? = (bM (ps.map some) y)[k]? := by
         show (bM (ps.map some) (p.av (ar (ps.map some)) x).2)[k]? = _; rw [e2]
       cases p' <;> cases H6 <;> simp only at h2 ⊢ <;> (try exact h2)
       · obtain ⟨B, q1, q2, q3⟩ := h2; exact ⟨B, eh.trans q1, q2, q3⟩
       · obtain ⟨w6, q1, q2⟩ := h2; exact ⟨w6, eh.trans q1, q2⟩
end Go.TM
namespace Go.TM
open Go Go.RowKit
theorem EM {P : Program} {fn : Func} {tm : Array Value} {w : World} {vals : List Value} (h : (fn.results.toList.mapM (Az tm)).run P w = .ok vals w) :
   (results fn tm).run P w = .ok (if hs : vals.toArray.size = 1 then vals.toArray[0] else .tuple vals.toArray) w := by
 have e : results fn tm = (do let vs ← fn.results.mapM (Az tm); pure (if h : vs.size = 1 then vs[0] else .tuple vs) : Sem Value) := rfl; rw [e, Array.mapM_eq_mapM_toList]; simp [Sem.run_bind, h]
theorem EN {c : Cz} {w : World} {mu : Mu} {lc : Nat → Nat → Loc} {cM : List AV} {args : Array Value} (hH : Handed c w mu) (hA : vC c w lc 0 cM args.toList) {ps : List AP} {x : ak (ar (ps.map some))} (hx : ek ps cM = some x) {n : Nat} (hn : ps.length ≤ n) :
   ∃ (zD : Mu) (c' : Cz), zD.m = mu.m ∧ zD.ok = mu.ok ∧ j5 ps zD ∧ Dh zD lc 0 ps cM args.toList ∧ args.size = ps.length ∧ cM.length = ps.length ∧
     Rel w zD c' (start n ps x) { tmps := args ++ Array.replicate (n - args.size) undef, defers := [] } w := by
 obtain ⟨l1, l2, hold⟩ := uE ps 0 cM args.toList hx hA; have K4 := yR ps cM hx; have AD : args.size = ps.length := by rw [l2]; simp
 let a : Act := { tmps := args ++ Array.replicate (n - args.size) undef, defers := [] }
 have OT : ∀ k v, args.toList[k]? = some v → a.eval (.tmp k) = v := by
   intro k v hk; have bP : k < args.size := by
     have := (List.getElem?_eq_some_iff.1 hk).1; simpa using this
   show (args ++ Array.replicate (n - args.size) undef).getD k undef = v; rw [Array.getD_eq_getD_getElem?, Array.getElem?_append_left bP]; rw [Array.getElem?_toList] at hk; rw [hk]; rfl
 let zD : Mu := { m := mu.m, ok := mu.ok, an := AA lc 0 cM args.toList }
 have hlen : (bM (ps.map some) x ++ List.replicate (n + 1 - ps.length) none).length = n + 1 := by
   rw [List.length_append, nV]; simp; omega
 have BI : ∀ (i : Nat) (av : AV), (bM (ps.map some) x ++ List.replicate (n + 1 - ps.length) none)[i]? = some (some av) → (bM (ps.map some) x)[i]? = some (some av) := by
   intro i av hi
   by_cases h : i < (bM (ps.map some) x).length
   · rwa [List.getElem?_append_left h] at hi
   · rw [List.getElem?_append_right (by omega), List.getElem?_replicate] at hi
     split at hi <;> simp at hi
 have x7 : yH w zD c w := ⟨fun b l hb => ⟨hH.lt b l hb, (hH.lb b l hb).imp id fun hh => .inr ((hH.m b).2 ⟨l, hb, hh⟩)⟩, fun b _ hb => .inr ((hH.ok b).2 hb), ⟨rfl, rfl, rfl, Nat.le_refl _⟩, fun _ _ _ => rfl⟩; have Qy : x8 c w lc a 0 (bM (ps.map some) x ++ List.replicate (n + 1 - ps.length) none) := by
   intro i av hi; obtain ⟨v, h1, h2⟩ := hold i av (BI i av hi); have := OT i v h1; rw [Nat.zero_add] at h2 ⊢; rw [this]; exact h2
 have OU : ∀ k av v, cM[k]? = some av → args.toList[k]? = some v → p9 c w k (lc k) av v := by
   have key : ∀ (cM : List AV) (i : Nat) (vs : List Value), vC c w lc i cM vs → ∀ k av v, cM[k]? = some av → vs[k]? = some v → p9 c w (i + k) (lc (i + k)) av v := by
     intro cM
     induction cM with
     | nil => intro i vs _ k av v h; simp at h
     | cons a0 cM ih =>
       intro i vs h k av v h1 h2; obtain ⟨v0, l, rfl, g1, g2⟩ := h
       cases k with
       | zero => simp at h1 h2; subst h1 h2; exact g1
       | succ k =>
         have := ih (i + 1) l g2 k av v (by simpa using h1) (by simpa using h2)
         rwa [show i + 1 + k = i + (k + 1) by omega] at this
   intro k av v h1 h2; have := key cM 0 args.toList hA k av v h1 h2
   rwa [Nat.zero_add] at this
 have Ub : ∀ p ∈ zD.an, KY (bM (ps.map some) x ++ List.replicate (n + 1 - ps.length) none) lc a p := by
   intro p hp; obtain ⟨k, av, v, h1, h2, h3⟩ := qM 0 cM args.toList p hp; have hk : k < ps.length := by rw [l1]; exact (List.getElem?_eq_some_iff.1 h1).1
   simp only [Nat.zero_add] at h3; obtain ⟨p', q1, q2⟩ := K4 k av h1; rcases h3 with ⟨A, rfl, rfl⟩ | ⟨os, rfl, rfl⟩ | ⟨os, j, A, rfl, hj, rfl⟩
   · refine ⟨rfl, by rw [hlen]; omega, fun H6 Qz => .inl ?_⟩
     cases p' with
     | io r dd =>
       obtain ⟨B, e1, e2, e3⟩ := q2; have := BI k H6 Qz; rw [e1] at this; simp only [Option.some.injEq] at this; exact ⟨B, this.symm, fun _ => ⟨e2, e3, rfl⟩⟩
     | val _ _ => exact q2.elim
     | box _ _ => exact q2.elim
     | bo _ => exact q2.elim
   · refine ⟨rfl, by rw [hlen]; omega, fun w6 _ => ?_⟩; obtain ⟨lH, vs, ty, e1, _⟩ := OU k _ v h1 h2; rw [OT k v h2, e1]
   · refine ⟨rfl, by rw [hlen]; omega, fun H6 Qz => .inr ?_⟩
     cases p' with
     | io r dd => exact q2.elim
     | val _ _ => exact q2.elim
     | box _ _ => exact q2.elim
     | bo qs =>
       obtain ⟨w6, e1, e2⟩ := q2; have := BI k H6 Qz; rw [e1] at this; simp only [Option.some.injEq] at this; obtain ⟨_, B, e3, e4, e5⟩ := e2 j A hj; refine ⟨w6, this.symm, fun A' dI => ?_⟩; rw [e3] at dI; injection dI with dI; injection dI with dI; subst dI; exact ⟨e4, e5, rfl⟩
 obtain ⟨c', hR⟩ := Rel.H9 (a := a) x7 rfl Qy Ub; refine ⟨zD, c', rfl, rfl, fun p hp => ?_, fun k p av v h0 h1 h2 => ?_, AD, l1.symm, hR⟩
 · obtain ⟨k, av, v, h1, h2, h3⟩ := qM 0 cM args.toList p hp; simp only [Nat.zero_add] at h3; obtain ⟨p', q1, q2⟩ := K4 k av h1; rcases h3 with ⟨A, rfl, rfl⟩ | ⟨os, rfl, rfl⟩ | ⟨os, j, A, rfl, hj, rfl⟩
   · cases p' with
     | io r dd => exact .inl ⟨k, r, _, _, _, rfl, dd, q1⟩
     | val _ _ => exact q2.elim
     | box _ _ => exact q2.elim
     | bo _ => exact q2.elim
   · cases p' with
     | io r dd => exact q2.elim
     | val _ _ => exact q2.elim
     | box b qs => exact .inr (.inl ⟨k, _, b, qs, rfl, q1⟩)
     | bo _ => exact q2.elim
   · cases p' with
     | io r dd => exact q2.elim
     | val _ _ => exact q2.elim
     | box b qs => exact q2.elim
     | bo qs => exact .inr (.inr ⟨k, j, _, _, _, qs, rfl, q1⟩)
 · obtain ⟨p', q1, q2⟩ := K4 k av h1; rw [h0] at q1
   cases q1
   have hh := OU k av v h1 h2; obtain ⟨a1, a2, a3⟩ := Ib (lc := lc) 0 cM args.toList (by rw [← l1, l2]) k av v h1 h2; rw [Nat.zero_add] at a1 a2 a3 ⊢
   cases p with
   | val _ _ => cases av with
     | val _ _ => trivial
     | io _ => exact q2.elim
     | box _ => exact q2.elim
     | bo _ => exact q2.elim
   | bo qs => cases av with
     | val _ _ => exact q2.elim
     | io _ => exact q2.elim
     | box _ => exact q2.elim
     | bo os =>
       obtain ⟨us, rfl, hl, KM⟩ := hh; obtain ⟨w6, _, e2⟩ := q2; obtain ⟨n1, _⟩ := a8.KX os 0 _ hl; refine ⟨us, rfl, fun j A hj => ⟨(e2 j A hj).1, ?_⟩⟩; have bP : j < us.toList.length := by rw [n1]; exact (List.getElem?_eq_some_iff.1 hj).1
       have hO : OwnAt c w (.bA k j) (lc k j) A us.toList[j] := KM j _ _ hj (List.getElem?_eq_getElem bP); exact ⟨_, List.getElem?_eq_getElem bP, hO.1, hO.2.1, a3 os rfl j A hj⟩
   | io r dd => cases av with
     | val _ _ => exact q2.elim
     | box _ => exact q2.elim
     | bo _ => exact q2.elim
     | io A =>
       have hO : OwnAt c w (.bA k 0) (lc k 0) A v := hh; exact ⟨hO.1, hO.2.1, a1 A rfl⟩
   | box _ _ => cases av with
     | val _ _ => exact q2.elim
     | io _ => exact q2.elim
     | bo _ => exact q2.elim
     | box os =>
       obtain ⟨lH, vs, ty, e1, _⟩ := hh; refine ⟨lH, e1, ?_⟩; have := a2 os rfl; rw [e1] at this; exact this
theorem Gs {P : Program} {T : jq} (hT : fq P T) {w0 : World} {mu zD : Mu} (hm : zD.m = mu.m) (fb : zD.ok = mu.ok) {c : Cz} {st : St} {a : Act} {w : World} (h : Rel w0 zD c st a w) {fn : Func} {ps : List AP} {rs : List RP} (TN : vF T a.tmps fn.results.toList rs)
   {lc : Nat → Nat → Loc} {cM : List AV} {vs : List Value} (h1 : ps.length = cM.length) (h2 : ps.length = vs.length) (hl : Dh zD lc 0 ps cM vs) {e : Ex} {y : ak (bQ rs (ba ps))} (hf : xj rs ps e st = some y) :
   (e = .normal ∨ e = .ret) ∧ ∃ v, (results fn a.tmps).run P w = .ok v w ∧ ∃ c', yH w0 mu c' w ∧ oR c' w (eS rs (ba ps) y).1 v ∧ fX c' w lc 0 cM vs (kn ps (eS rs (ba ps) y).2) := by
 have he : e = .normal ∨ e = .ret := by
   cases e with
   | normal => exact .inl rfl
   | ret => exact .inr rfl
   | exit m => cases hf
 refine ⟨he, ?_⟩; have hf : ((qt st 0 ps).bind fun x => (Ay st rs (ba ps) x.1).bind fun q => bif re (bq q.2.1 ++ x.2.1) && apart (bq q.2.1 ++ x.2.1) (q.2.2 ++ x.2.2) then some q.1 else none) = some y := by
   rcases he with rfl | rfl <;> exact hf
 obtain ⟨qx, hqx, hf⟩ := Option.bind_eq_some_iff.1 hf; obtain ⟨qr, YL, hf⟩ := Option.bind_eq_some_iff.1 hf; obtain ⟨mW, hy⟩ := aD hf; injection hy with hy; obtain ⟨x1, u1, r1⟩ := qx; obtain ⟨x2, u2, r2⟩ := qr; subst hy; rw [Bool.and_eq_true] at mW; obtain ⟨a1, tb, a2, a3, a4⟩ := qL h ps 0 cM vs h1 h2 hl hqx; obtain ⟨b1, b2, b3, vals, b4, b5, b6⟩ := Cx hT h fn.results.toList rs TN (ba ps) x1 YL; have yL : ∀ l ∈ bq u2 ++ u1, l.real = true := fun l hl => (List.mem_append.1 hl).elim (b3 l) (a1 l)
 have IN := l9 _ yL mW.1; have BM : ∀ p ∈ r2 ++ r1, Lb.sp p.1 p.2 ∉ bq u2 ++ u1 := by
   intro p hp hm; have h1 := List.all_eq_true.1 mW.2 p hp; have h2 := List.all_eq_true.1 h1 _ hm; rw [(Lb.w7 rfl).2 rfl] at h2
   cases h2
 let tab := w9 .gj 0 u2 ++ tb
 have Uc : tab.map (·.1) = bq u2 ++ u1 := by show (w9 .gj 0 u2 ++ tb).map _ = _; rw [List.map_append, xa, a2]
 have pI := Classical.propDecidable
 let ρ : Lb → Option Lb := fun l => match look tab l with | some y => some y | none => if l = .out then some .out else none
 have hρt : ∀ p ∈ tab, ρ p.1 = some p.2 := by
   intro p hp; have := w8 tab (by rw [Uc]; exact IN) hp; show (match look tab p.1 with | some y => some y | none => _) = _; rw [this]
 have xd : ∀ {l y}, look tab l = some y → l ∈ bq u2 ++ u1 := by
   intro l y hl; have := uC tab hl; rw [← Uc]; exact List.mem_map.2 ⟨_, this, rfl⟩
 have hρr : ∀ p ∈ r2 ++ r1, ρ (.sp p.1 p.2) = none := by
   intro p hp; show (match look tab (.sp p.1 p.2) with | some y => some y | none => if Lb.sp p.1 p.2 = .out then some Lb.out else none) = none
   cases hl : look tab (.sp p.1 p.2) with
   | some y => exact absurd (xd hl) (BM p hp)
   | none => simp
 have hρo : ρ .out = some .out := by
   show (match look tab Lb.out with | some y => some y | none => if Lb.out = Lb.out then some Lb.out else none) = _
   cases hl : look tab Lb.out with
   | some y => have := yL _ (xd hl); cases this
   | none => simp
 have x7 : yH w0 mu (c.map ρ) w := by
   refine ⟨fun b l hb => ?_, fun b hb hn => ?_, h.kept, by rw [← hm]; exact h.old⟩
   · obtain ⟨k, hk, e⟩ := Cz.map_some hb; obtain ⟨g1, g2⟩ := h.owned b k hk; refine ⟨g1, ?_⟩; rw [← hm]; refine g2.imp (fun e2 => ?_) id; subst e2; rw [hρo] at e
     cases e; rfl
   · rw [← hm, ← fb]
     cases hk : c.own b with
     | none => exact h.free b hb hk
     | some k =>
       have e : ρ k = none := (Cz.iS (ρ := ρ) hk).symm.trans hn; rcases (h.owned b k hk).2 with g | g | g
       · subst g; rw [hρo] at e; cases e
       · exact absurd g (Nat.not_le_of_lt hb)
       · exact .inl g
 have hX := a4 ρ (fun p hp => hρt p (List.mem_append_right _ hp)) (fun p hp => hρr p (List.mem_append_right _ hp)); have hR := b6 ρ 0 (fun k l hk => by
   have := hρt _ (List.mem_append_left tb (tz .gj 0 u2 k l hk)); exact this) (fun p hp => hρr p (List.mem_append_left _ hp))
 refine ⟨_, EM b4, c.map ρ, x7, ?_, by rw [b1]; exact hX⟩; have hlen : vals.length = (eS rs (ba ps) x2).1.length := by
   have : rs.length = fn.results.toList.length := by
     have key : ∀ (l : List ResultVar) (m : List RP), vF T a.tmps l m → m.length = l.length := by
       intro l
       induction l with
       | nil => intro m hm; cases m with
         | nil => rfl
         | cons _ _ => exact hm.elim
       | cons v l ih => intro m hm; cases m with
         | nil => exact hm.elim
         | cons r m => simp [ih m hm.2]
     exact key _ _ TN
   rw [b5, b2, this]
 by_cases hs : vals.toArray.size = 1
 · rw [dif_pos hs]; have wO : vals.length = 1 := by simpa using hs
   obtain ⟨v, rfl⟩ : ∃ v, vals = [v] := by
     cases vals with
     | nil => cases wO
     | cons v l => cases l with
       | nil => exact ⟨v, rfl⟩
       | cons _ _ => simp at wO
   rw [wO] at hlen
   cases ho : (eS rs (ba ps) x2).1 with
   | nil => rw [ho] at hlen; cases hlen
   | cons r l => cases l with
     | cons _ _ => rw [ho] at hlen; simp at hlen
     | nil =>
       rw [ho] at hR; exact .inl ⟨r, rfl, hR⟩
 · rw [dif_neg hs]; refine .inr ⟨by rw [← hlen]; simpa using hs, vals.toArray, rfl, by simpa using hR⟩
theorem EO {P : Program} {T : jq} (hT : fq P T) (hE : uP P T) {S : il} (hS : km P S) {D : jb} {f : FuncId} {fn : Func} {code : Code} {n : Nat} {ps : List AP} {rs : List RP} {L : kV (ak (bQ rs (ba ps)))} {OW : Nat → Array Oper → Prop}
   {t : ak (ar (ps.map some)) → Option (ak (bQ rs (ba ps)))}
   (hf : P.funcs[f]? = some fn) (hb : fn.body = some code) (hn : fn.ntmps = n) (Nu : ps.length ≤ n) (sV : ez n code = true) (z7 : ∀ tm, vF T tm fn.results.toList rs)
   (hL : ∀ (w0 : World) (mu : Mu) (y : ak (bQ rs (ba ps))), j5 ps mu → cP (kg P w0 mu n L y) code)
   (hD : ∀ (w0 : World) (mu : Mu), ow (ak (bQ rs (ba ps))) P T S D w0 mu n OW) (Ud : dq OW code)
   (Gt : ∀ (w0 : World) (mu : Mu) (c : Cz) (a : Act) (w : World) x, Rel w0 mu c (start n ps x) a w → a.tmps.size = n → ∃ c2 fB, Rel w0 mu c2 fB a w ∧ dm T S D L code fB (xj rs ps) = t x) : FnOk P f (jR ps rs t) := by
 intro c w mu lc cM args A y hH hA hs ho; unfold jR at hs
 cases hx : ek ps cM with
 | none => rw [hx] at hs; cases hs
 | some x =>
   rw [hx] at hs; simp only [Option.some.injEq] at hs; subst hs; have zE : t x = some y := ho; obtain ⟨zD, c', hm, fb, AE, Ic, AD, I8, hR⟩ := EN hH hA hx Nu; refine calls_of_wp hf hb ?_; rw [hn]; have jK : (args ++ Array.replicate (n - args.size) undef).size = n := by simp; omega
   obtain ⟨c2, fB, Yx, Ue⟩ := Gt w zD c' _ w x hR jK; refine w5 (nU hT hE hS w zD n) (hD w zD) code sV (hL w zD y AE) Ud (fun {e} {c1} {xT} {a1} {w1} h1 h2 h3 => ?_) Yx jK (Ue.trans zE); obtain ⟨he, v, mo, c2, Gl, hV, hX⟩ := Gs (P := P) hT hm fb h1 (z7 a1.tmps) I8.symm (by rw [← AD]; simp) Ic h3; have Aq : a1.defers = [] ∧ ∃ v, (results fn a1.tmps).run P w1 = .ok v w1 ∧ (∃ v', Ending.returned v = .returned v' ∧ ∃ c', yH w mu c' w1 ∧ oR c' w1 (eS rs (ba ps) y).1 v' ∧ fX c' w1 lc 0 cM args.toList (kn ps (eS rs (ba ps) y).2)) :=
     ⟨h1.plain, v, mo, v, rfl, c2, Gl, hV, hX⟩
   rcases he with rfl | rfl <;> exact Aq
theorem Uf {P : Program} {T : jq} (hT : fq P T) (hE : uP P T) {S : il} (hS : km P S) {D : jb} {f : FuncId} {fn : Func} {code : Code} {n : Nat} {ps : List AP} {rs : List RP} {L : kV (ak (bQ rs (ba ps)))} {OW : Nat → Array Oper → Prop}
   {t : ak (ar (ps.map some)) → Option (ak (bQ rs (ba ps)))}
   (hf : P.funcs[f]? = some fn) (hb : fn.body = some code) (hn : fn.ntmps = n) (Nu : ps.length ≤ n) (sV : ez n code = true) (z7 : ∀ tm, vF T tm fn.results.toList rs)
   (hL : ∀ (w0 : World) (mu : Mu) (y : ak (bQ rs (ba ps))), j5 ps mu → cP (kg P w0 mu n L y) code)
   (hD : ∀ (w0 : World) (mu : Mu), ow (ak (bQ rs (ba ps))) P T S D w0 mu n OW) (Ud : dq OW code)
   (Gt : ∀ x, dm T S D L code (start n ps x) (xj rs ps) = t x) : FnOk P f (jR ps rs t) :=
 EO hT hE hS hf hb hn Nu sV z7 hL hD Ud (fun _ _ c _ _ x h _ => ⟨c, _, h, Gt x⟩)
end Go.TM
namespace Go.TM
open Go Go.RowKit
def iter {X E : Type} (round : X → Option (Sum X E)) : Nat → X → Option E
 | 0, _ => none
 | n + 1, x => match round x with
   | some (.inl y) => iter round n y
   | some (.inr e) => some e
   | none => none
theorem x9 {X E : Type} {round : X → Option (Sum X E)} : (n : Nat) → {x : X} → {e : E} → iter round n x = some e → ∀ m, n ≤ m → iter round m x = some e
 | 0, _, _, h, _, _ => by cases h
 | n + 1, x, e, h, 0, hm => by omega
 | n + 1, x, e, h, m + 1, hm => by
   unfold iter at h ⊢
   cases hr : round x with
   | none => rw [hr] at h; cases h
   | some z => cases z with
     | inl y => rw [hr] at h; exact x9 n h m (by omega)
     | inr e' => rw [hr] at h; exact h
noncomputable def aE {X E : Type} (round : X → Option (Sum X E)) (x : X) : Option E :=
 have := Classical.propDecidable (∃ e n, iter round n x = some e)
 if h : ∃ e n, iter round n x = some e then some (Classical.choose h) else none
theorem AF {X E : Type} {round : X → Option (Sum X E)} {x : X} {e : E} {n : Nat} (h : iter round n x = some e) : aE round x = some e := by
 have hex : ∃ e n, iter round n x = some e := ⟨e, n, h⟩; unfold aE; simp only; rw [dif_pos hex]; obtain ⟨m, hm⟩ := Classical.choose_spec hex; have h1 := x9 m hm (max m n) (Nat.le_max_left _ _); have h2 := x9 n h (max m n) (Nat.le_max_right _ _); rw [h1] at h2; exact h2
theorem rD {X E : Type} {round : X → Option (Sum X E)} {x : X} {e : E} (h : aE round x = some e) : ∃ n, iter round n x = some e := by
 unfold aE at h; simp only at h
 split at h
 · rename_i hex; injection h with h; rw [← h]; exact Classical.choose_spec hex
 · cases h
theorem iq {X E : Type} (round : X → Option (Sum X E)) (x : X) : aE round x = match round x with | some (.inl y) => aE round y | some (.inr e) => some e | none => none := by
 cases hr : round x with
 | none =>
   cases h : aE round x with
   | none => rfl
   | some e =>
     obtain ⟨n, hn⟩ := rD h
     cases n with
     | zero => cases hn
     | succ n => unfold iter at hn; rw [hr] at hn; cases hn
 | some z => cases z with
   | inr e => exact AF (n := 1) (by unfold iter; rw [hr])
   | inl y =>
     simp only
     cases h : aE round y with
     | some e =>
       obtain ⟨n, hn⟩ := rD h; exact AF (n := n + 1) (by unfold iter; rw [hr]; exact hn)
     | none =>
       cases h2 : aE round x with
       | none => rfl
       | some e =>
         obtain ⟨n, hn⟩ := rD h2
         cases n with
         | zero => cases hn
         | succ n =>
           unfold iter at hn; rw [hr] at hn; rw [AF hn] at h
           cases h
def AG (st : St) (hp : List (Option AP)) : Option (ak (ar hp)) :=
 (kZ st 0 hp).bind fun q => bif re q.2.1 && apart q.2.1 q.2.2 then some q.1 else none
def lT (hp : List (Option AP)) (x : ak (ar hp)) : St := lI 0 (bM hp x)
def fi : List AP → List (Option AP) → Bool
 | [], _ => true
 | .val _ _ :: ps, _ :: hp => fi ps hp
 | .io _ _ :: ps, o :: hp => (match o with | none => true | some (.io _ _) => true | _ => false) && fi ps hp
 | .box _ _ :: ps, o :: hp => (match o with | none => true | some (.box l _) => l | some (.val _ _) => true | _ => false) && fi ps hp
 | .bo _ :: _, _ :: _ => false
 | _ :: _, [] => false
theorem rE : (ps : List AP) → (hp : List (Option AP)) → fi ps hp = true → ∀ (i : Nat) (p : AP), ps[i]? = some p → ∃ o, hp[i]? = some o ∧ match p with
   | .val _ _ => True
   | .io _ _ => o = none ∨ ∃ r d, o = some (.io r d)
   | .box _ _ => o = none ∨ (∃ a b, o = some (.val a b)) ∨ ∃ b, o = some (.box true b)
   | .bo _ => False
 | [], _, _ => by intro i p h; simp at h
 | p :: ps, [], h => by cases p <;> simp [fi] at h
 | p :: ps, o :: hp, h => by
   intro i p' hi; have ey : fi ps hp = true := by
     cases p with
     | val _ _ => exact h
     | io _ => unfold fi at h; rw [Bool.and_eq_true] at h; exact h.2
     | bo _ => cases h
     | box _ _ => unfold fi at h; rw [Bool.and_eq_true] at h; exact h.2
   cases i with
   | succ i => exact (rE ps hp ey i p' (by simpa using hi)).imp fun o ho => ⟨by simpa using ho.1, ho.2⟩
   | zero =>
     simp only [List.getElem?_cons_zero, Option.some.injEq] at hi; subst hi; refine ⟨o, rfl, ?_⟩
     cases p with
     | val _ _ => trivial
     | bo _ => cases h
     | io _ =>
       unfold fi at h; rw [Bool.and_eq_true] at h
       cases o with
       | none => exact .inl rfl
       | some q => cases q with
         | io r d => exact .inr ⟨r, d, rfl⟩
         | val _ _ => cases h.1
         | box _ _ => cases h.1
         | bo _ => cases h.1
     | box _ _ =>
       unfold fi at h; rw [Bool.and_eq_true] at h
       cases o with
       | none => exact .inl rfl
       | some q => cases q with
         | io r d => cases h.1
         | bo _ => cases h.1
         | val a b => exact .inr (.inl ⟨a, b, rfl⟩)
         | box l b =>
           have : l = true := h.1; subst this; exact .inr (.inr ⟨b, rfl⟩)
end Go.TM
namespace Go.TM
open Go Go.RowKit
theorem K5 {st : St} {k : Nat} {rr : RT} {dd : Md} {t : RT} {V : V} {y : ak t} {x : ak (.cons (.sl rr) t)} {u : List Lb} {r : List (Nat × Nat)} (h : yP st k (.io rr dd) t V y = some (x, u, r)) : ∃ A, aQ st k 0 1 = some A ∧ bn rr A.xs = some x.1 := by
 cases V with
 | agg _ => cases h
 | kR _ => cases h
 | one cx => cases cx with
   | ref a j g vw => cases vw with
     | full =>
       have h : (bif Nat.beq a k && (Nat.beq j 0 && Nat.beq g 1) then ((aQ st a j g).bind fun A => bif A.own && A.md.is dd then (bn rr A.xs).map fun xs => ((xs, y), [Lb.sp a j], ([] : List (Nat × Nat))) else none) else none) = some (x, u, r) := h; obtain ⟨h1, h2⟩ := aD h; rw [Bool.and_eq_true, Bool.and_eq_true] at h1; have e1 := Nat.eq_of_beq_eq_true h1.1; have e2 := Nat.eq_of_beq_eq_true h1.2.1; have e3 := Nat.eq_of_beq_eq_true h1.2.2; subst e1 e2 e3; obtain ⟨A, hA, h3⟩ := Option.bind_eq_some_iff.1 h2; obtain ⟨_, h4⟩ := aD h3; obtain ⟨xs, OS, e⟩ := Option.map_eq_some_iff.1 h4; injection e with e _; exact ⟨A, hA, by rw [OS, ← e]; rfl⟩
     | «from» _ => cases h
     | sub _ _ => cases h
   | _ => cases h
theorem Jd {st : St} {k : Nat} {qs : List OP} {t : RT} {V : V} {y : ak t} {x : ak (jP qs t)} {u : List Lb} {r : List (Nat × Nat)} (h : yP st k (.box true qs) t V y = some (x, u, r)) : V = .one (.ptr k 1 0) ∧ ∃ cs, cV st k 1 = some cs := by
 cases V with
 | agg _ => cases h
 | kR _ => cases h
 | one cx => cases cx with
   | ptr b g off =>
     have h : (bif Nat.beq off 0 && (!true || (Nat.beq b k && Nat.beq g 1)) then ((cV st b g).bind fun cs => (je st qs t cs y).map fun q => (q.1, Lb.box b :: bq q.2.1, q.2.2)) else none) = some (x, u, r) := h; obtain ⟨h1, h2⟩ := aD h; simp only [Bool.not_true, Bool.false_or] at h1; rw [Bool.and_eq_true, Bool.and_eq_true] at h1; have e1 := Nat.eq_of_beq_eq_true h1.1; have e2 := Nat.eq_of_beq_eq_true h1.2.1; have e3 := Nat.eq_of_beq_eq_true h1.2.2; subst e1 e2 e3; obtain ⟨cs, th, _⟩ := Option.bind_eq_some_iff.1 h2; exact ⟨rfl, cs, th⟩
   | _ => cases h
theorem tJ {w0 : World} {mu : Mu} {c : Cz} {st : St} {a : Act} {w : World} (h : Rel w0 mu c st a w) : (l : List (Option AP)) → (k : Nat) → {x : ak (ar l)} → {u : List Lb} → {r : List (Nat × Nat)} → kZ st k l = some (x, u, r) → ∀ (i : Nat),
   (∀ rr dd, l[i]? = some (some (.io rr dd)) → ∃ B A : fT, (bM l x)[i]? = some (some (.io B)) ∧ aQ st (k + i) 0 1 = some A ∧ B.r.width = A.r.width ∧ B.xs.length = A.xs.length) ∧
   (∀ qs, l[i]? = some (some (.box true qs)) → (∃ cs, cV st (k + i) 1 = some cs) ∧ bI st (k + i) = .one (.ptr (k + i) 1 0)) ∧
   (l[i]? = some none → (bM l x)[i]? = some none) ∧ (∀ ag b, l[i]? = some (some (.val ag b)) → ∃ os, (bM l x)[i]? = some (some (.val ag os)))
 | [], k, x, u, r, he => by intro i; simp
 | none :: l, k, x, u, r, he => by
   intro i
   cases i with
   | zero => exact ⟨fun _ _ h => by simp at h, fun _ h => by simp at h, fun _ => rfl, fun _ _ h => by simp at h⟩
   | succ i =>
     have := tJ h l (k + 1) he i; rw [show k + 1 + i = k + (i + 1) by omega] at this; exact this
 | some p :: l, k, x, u, r, he => by
   intro i; unfold kZ at he
   cases h1 : kZ st (k + 1) l with
   | none => simp [h1] at he
   | some q1 =>
     obtain ⟨y, us, rs⟩ := q1; simp only [h1] at he
     cases h2 : yP st k p (ar l) (bI st k) y with
     | none => simp [h2] at he
     | some q2 =>
       obtain ⟨x1, u1, r1⟩ := q2; simp only [h2] at he; injection he with he; injection he with e1 e2; subst e1
       cases i with
       | succ i =>
         have hh := tJ h l (k + 1) h1 i; rw [show k + 1 + i = k + (i + 1) by omega] at hh; have e : (p.av (ar l) x1).2 = y := (xh h k (h.eL k) h2).1; have e2 : (bM (some p :: l) x1)[i + 1]? = (bM l y)[i]? := by
           show (bM l (p.av (ar l) x1).2)[i]? = _; rw [e]
         rw [e2]; exact hh
       | zero =>
         have e2 : (bM (some p :: l) x1)[0]? = some (some (p.av (ar l) x1).1) := rfl; rw [e2]; simp only [List.getElem?_cons_zero, Option.some.injEq, Nat.add_zero]; refine ⟨fun rr dd e => ?_, fun qs e => ?_, (fun e => by cases e), fun ag b e => ?_⟩
         · subst e; obtain ⟨A, hA, hc⟩ := K5 h2; obtain ⟨er, JZ⟩ := aX hc; refine ⟨_, A, rfl, hA, by show rr.width = _; rw [← er], ?_⟩; show List.length (x1.1 : List (ak rr)) = _; rw [JZ]
           cases er
           rfl
         · subst e; obtain ⟨q1, q2⟩ := Jd h2; exact ⟨q2, q1⟩
         · subst e; exact ⟨_, rfl⟩
end Go.TM
namespace Go.TM
open Go Go.RowKit
theorem AH {w0 : World} {mu : Mu} {c : Cz} {st : St} {a : Act} {w : World} (h : Rel w0 mu c st a w) {ps : List AP} (hs : j5 ps mu) {hp : List (Option AP)} (oN : fi ps hp = true) {x : ak (ar hp)} (hx : AG st hp = some x) : ∃ c', Rel w0 mu c' (lT hp x) a w := by
 obtain ⟨q, hq, Ga⟩ := Option.bind_eq_some_iff.1 hx; obtain ⟨mW, BH⟩ := aD Ga; injection BH with BH; obtain ⟨x0, u, r⟩ := q; subst BH; rw [Bool.and_eq_true] at mW; obtain ⟨yL, tb, KH, TT, hold⟩ := tI h hp 0 hq; have Ug := tJ h hp 0 hq; have IN := l9 _ yL mW.1; have BM : ∀ p ∈ r, Lb.sp p.1 p.2 ∉ u := by
   intro p hp hm; have h1 := List.all_eq_true.1 mW.2 p hp; have h2 := List.all_eq_true.1 h1 _ hm; rw [(Lb.w7 rfl).2 rfl] at h2
   cases h2
 have pI := Classical.propDecidable
 let ρ : Lb → Option Lb := fun l => match look tb l with | some y => some y | none => if l = .out then some .out else none
 have hρt : ∀ p ∈ tb, ρ p.1 = some p.2 := by
   intro p hp; have := w8 tb (by rw [KH]; exact IN) hp; show (match look tb p.1 with | some y => some y | none => _) = _; rw [this]
 have xd : ∀ {l y}, look tb l = some y → l ∈ u := by
   intro l y hl; have := uC tb hl; rw [← KH]; exact List.mem_map.2 ⟨_, this, rfl⟩
 have hρr : ∀ p ∈ r, ρ (.sp p.1 p.2) = none := by
   intro p hp; show (match look tb (.sp p.1 p.2) with | some y => some y | none => if Lb.sp p.1 p.2 = .out then some Lb.out else none) = none
   cases hl : look tb (.sp p.1 p.2) with
   | some y => exact absurd (xd hl) (BM p hp)
   | none => simp
 have hρo : ρ .out = some .out := by
   show (match look tb Lb.out with | some y => some y | none => if Lb.out = Lb.out then some Lb.out else none) = _
   cases hl : look tb Lb.out with
   | some y => have := yL _ (xd hl); cases this
   | none => simp
 have x7 : yH w0 mu (c.map ρ) w := by
   refine ⟨fun b l hb => ?_, fun b hb hn => ?_, h.kept, h.old⟩
   · obtain ⟨k, hk, e⟩ := Cz.map_some hb; obtain ⟨g1, g2⟩ := h.owned b k hk; refine ⟨g1, g2.imp (fun e2 => ?_) id⟩; subst e2; rw [hρo] at e
     cases e; rfl
   · cases hk : c.own b with
     | none => exact h.free b hb hk
     | some k =>
       have e : ρ k = none := (Cz.iS (ρ := ρ) hk).symm.trans hn; rcases (h.owned b k hk).2 with g | g | g
       · subst g; rw [hρo] at e; cases e
       · exact absurd g (Nat.not_le_of_lt hb)
       · exact .inl g
 refine Rel.H9 x7 h.plain (hold ρ hρt hρr) (fun p hpm => ?_); have NK := h.dH p hpm; have hlen : ∀ (i : Nat) (o : Option AP), hp[i]? = some o → i < (bM hp x0).length := fun i o ho => by rw [nV]; exact (List.getElem?_eq_some_iff.1 ho).1
 rcases hs p hpm with ⟨i, rr, W, n, l, rfl, dd, Qg⟩ | ⟨i, lH, b, qs, rfl, Qg⟩ | ⟨i, j, W, n, l, qs, rfl, Qg⟩
 · obtain ⟨o, ho, Uh⟩ := rE ps hp oN i _ Qg; refine ⟨rfl, hlen i o ho, fun av Ez => .inl ?_⟩; rcases Uh with rfl | ⟨r2, d2, rfl⟩
   · rw [(Ug i).2.2.1 ho] at Ez; cases Ez
   · obtain ⟨B, A, e1, e2, e3, e4⟩ := (Ug i).1 r2 d2 ho; rw [e1] at Ez; simp only [Option.some.injEq] at Ez; rw [Nat.zero_add] at e2; obtain ⟨f1, f2, f3⟩ := NK.2 A e2; exact ⟨B, Ez.symm, fun _ => ⟨e3.trans f1, e4.trans f2, f3⟩⟩
 · obtain ⟨o, ho, Uh⟩ := rE ps hp oN i _ Qg; refine ⟨rfl, hlen i o ho, fun os qn => ?_⟩; rcases Uh with rfl | ⟨a1, b1, rfl⟩ | ⟨b1, rfl⟩
   · rw [(Ug i).2.2.1 ho] at qn; cases qn
   · obtain ⟨w6, e⟩ := (Ug i).2.2.2 a1 b1 ho; rw [e] at qn; cases qn
   · obtain ⟨⟨cs, th⟩, hv⟩ := (Ug i).2.1 b1 ho; rw [Nat.zero_add] at th hv; have qI := h.eL i; rw [hv] at qI; rw [qI.2.2 cs th, NK.2 cs th]
 · obtain ⟨o, ho, Uh⟩ := rE ps hp oN i _ Qg; exact Uh.elim
def yc (id : Nat) (hp e0 e1 : List (Option AP)) : Ex → St → Option (Sum (ak (ar hp)) (Sum (ak (ar e0)) (ak (ar e1))))
 | .normal, st => (AG st hp).map .inl
 | .exit m, st => bif Nat.beq m id then (AG st e0).map fun y => .inr (.inl y) else none
 | .ret, st => (AG st e1).map fun y => .inr (.inr y)
noncomputable def yd {R : Type} (hp e0 e1 : List (Option AP)) (round : ak (ar hp) → Option (Sum (ak (ar hp)) (Sum (ak (ar e0)) (ak (ar e1))))) (st : St) (k : Ex → St → Option R) : Option R :=
 (AG st hp).bind fun x => (aE round x).bind fun z => match z with
   | .inl y => k .normal (lT e0 y)
   | .inr y => k .ret (lT e1 y)
theorem NL {R : Type} {P : Program} {T : jq} {S : il} {D : jb} {n id : Nat} {w0 : World} {mu : Mu} {ps : List AP} {hp e0 e1 : List (Option AP)} {b : Code} {r : R} {L : kV R} {OW : Nat → Array Oper → Prop}
   {L' : kV (Sum (ak (ar hp)) (Sum (ak (ar e0)) (ak (ar e1))))} {round : ak (ar hp) → Option (Sum (ak (ar hp)) (Sum (ak (ar e0)) (ak (ar e1))))}
   (BK : p8 P T S w0 mu n) (hD : ow (Sum (ak (ar hp)) (Sum (ak (ar e0)) (ak (ar e1)))) P T S D w0 mu n OW) (hs : j5 ps mu) (hf : (fi ps hp && (fi ps e0 && fi ps e1)) = true) (sV : ez n b = true) (Ud : dq OW b)
   (z8 : ∀ z, cP (kg P w0 mu n L' z) b) (Gu : ∀ x, dm T S D L' b (lT hp x) (yc id hp e0 e1) = round x) (hL : ∀ st k, L id b st k = yd hp e0 e1 round st k) : kg P w0 mu n L r id b := by
 intro k Q hk c st a w h hn hv; rw [Bool.and_eq_true, Bool.and_eq_true] at hf; rw [hL] at hv; unfold yd at hv; obtain ⟨x, hx, hv⟩ := Option.bind_eq_some_iff.1 hv; obtain ⟨z, hz, hv⟩ := Option.bind_eq_some_iff.1 hv; obtain ⟨c1, h1⟩ := AH h hs hf.1 hx; obtain ⟨m, hm⟩ := rD hz; refine wp_block ?_; refine wp_loop_ghost (fun m a w => ∃ x c, Rel w0 mu c (lT hp x) a w ∧ a.tmps.size = n ∧ iter round m x = some z) m ⟨x, c1, h1, hn, hm⟩ ?_
 rintro m a w ⟨x, c, hR, hn, hi⟩
 cases m with
 | zero => cases hi
 | succ m =>
   unfold iter at hi
   cases hr : round x with
   | none => rw [hr] at hi; cases hi
   | some y =>
     rw [hr] at hi; refine w5 BK hD b sV (z8 y) Ud (fun {e} {c2} {fB} {a2} {w2} g1 g2 g3 => ?_) hR hn ((Gu x).trans hr)
     cases e with
     | normal =>
       obtain ⟨x2, q1, rfl⟩ := Option.map_eq_some_iff.1 g3; obtain ⟨c3, g4⟩ := AH g1 hs hf.1 q1; exact ⟨m, Nat.lt_succ_self m, x2, c3, g4, g2, hi⟩
     | exit m' =>
       obtain ⟨yS, g5⟩ := aD g3; have yS := Nat.eq_of_beq_eq_true yS; subst yS; obtain ⟨x2, q1, rfl⟩ := Option.map_eq_some_iff.1 g5; injection hi with hi; subst hi; obtain ⟨c3, g4⟩ := AH g1 hs hf.2.1 q1; show (if m' = m' then Q .normal a2 w2 else Q (.exit m') a2 w2); rw [if_pos rfl]; exact hk g4 g2 hv
     | ret =>
       obtain ⟨x2, q1, rfl⟩ := Option.map_eq_some_iff.1 g3; injection hi with hi; subst hi; obtain ⟨c3, g4⟩ := AH g1 hs hf.2.2 q1; exact hk g4 g2 hv
end Go.TM
namespace Go.TM
open Go Go.RowKit
section
variable {P : Program} {ops : Array Oper} {Q : Exit → Act → World → Prop} {md : Region.Mode} {ds : List Nat}
def qu (md : Region.Mode) (ops : Array Oper) (i : Nat) : Nat → Nat → Bool
 | 0, _ => false
 | fuel + 1, d => match ops[d]? with
   | some o => o.after.any fun e => Region.binds md e && (e.on == i || qu md ops i fuel e.on)
   | none => false
def qv (md : Region.Mode) (ops : Array Oper) (aK : Array Bool) : Prop :=
 ∀ j oj, ops[j]? = some oj → aK.getD j false = true → ∀ e ∈ oj.after, Region.binds md e = true → aK.getD e.on false = true
theorem qv.set {aK : Array Bool} {i : Nat} (h : qv md ops aK) (hi : i ∈ Region.ready md ops aK) : qv md ops (aK.setIfInBounds i true) := by
 obtain ⟨_, oi, Ie, oS⟩ := mem_ready.1 hi; intro j oj hj hl e he hb
 by_cases NM : i = j
 · subst NM; have : oj = oi := Option.some.inj (hj.symm.trans Ie); subst this; exact getD_set_true (oS e he hb)
 · rw [getD_set_ne false NM] at hl; exact getD_set_true (h j oj hj hl e he hb)
theorem qv.none (md : Region.Mode) (ops : Array Oper) (n : Nat) : qv md ops (Array.replicate n false) := by
 intro j oj _ hl; simp [Array.getD_eq_getD_getElem?, Array.getElem?_replicate] at hl
 split at hl <;> simp at hl
theorem xl {aK : Array Bool} {i : Nat} (hc : qv md ops aK) : ∀ (fuel d : Nat), qu md ops i fuel d = true → aK.getD d false = true → aK.getD i false = true
 | 0, _, h, _ => by simp [qu] at h
 | fuel + 1, d, h, hl => by
   unfold qu at h
   cases ho : ops[d]? with
   | none => rw [ho] at h; simp at h
   | some o =>
     rw [ho] at h; obtain ⟨e, he, h1⟩ := Array.any_eq_true'.1 h; simp only [Bool.and_eq_true, Bool.or_eq_true, beq_iff_eq] at h1; have hle := hc d o ho hl e he h1.1; rcases h1.2 with h2 | h2
     · rw [← h2]; exact hle
     · exact xl hc fuel e.on h2 hle
theorem zt {aK : Array Bool} {i d fuel : Nat} (hc : qv md ops aK) (hr : qu md ops i fuel d = true) (D0 : aK.getD i true = false) : d ∉ Region.ready md ops aK := by
 intro hd; obtain ⟨_, o, ho, oS⟩ := mem_ready.1 hd; have hi : aK.getD i false = true := by
   cases fuel with
   | zero => simp [qu] at hr
   | succ n =>
     unfold qu at hr; rw [ho] at hr; obtain ⟨e, he, h1⟩ := Array.any_eq_true'.1 hr; simp only [Bool.and_eq_true, Bool.or_eq_true, beq_iff_eq] at h1; have hle := oS e he h1.1; rcases h1.2 with h2 | h2
     · rw [← h2]; exact hle
     · exact xl hc n e.on h2 hle
 rcases Nat.lt_or_ge i aK.size with h' | h'
 · simp [h'] at D0 hi; rw [D0] at hi
   cases hi
 · simp [Array.getElem?_eq_none h'] at D0
def lU (P : Program) (md : Region.Mode) (ops : Array Oper) (Q : Exit → Act → World → Prop) (ds : List Nat) : Nat → Array Bool → Act → World → Prop
 | 0, aK, a, w => Region.ready md ops aK = [] ∧ Q .normal a w
 | fuel + 1, aK, a, w =>
   (Region.ready md ops aK = [] → Q .normal a w) ∧
   ∀ i ∈ Region.ready md ops aK, wpOp P ops Q i (fun a' w' => (i ∉ ds → gp w w') ∧ lU P md ops Q ds fuel (aK.setIfInBounds i true) a' w') a w
theorem vi : ∀ (fuel : Nat) (aK : Array Bool) (a : Act) (w : World), lU P md ops Q ds fuel aK a w → wpAny P md ops Q fuel aK a w
 | 0, _, _, _, h => h
 | fuel + 1, _, _, _, h => ⟨h.1, fun i hi => wpOp_mono (fun a' w' h' => vi fuel _ a' w' h'.2) (h.2 i hi)⟩
theorem Di {i : Nat} {oi : Oper} {v : Value} {w0 : World} (hi : ops[i]? = some oi) (EP : ∀ (j : Nat) (o : Oper) cs b, ops[j]? = some o → o.op ≠ .select cs b)
   (hQ : ∀ c a w, Q (.panic c) (a.put oi.dst v) w → Q (.panic c) a w) (n : Nat) :
   ∀ (fuel : Nat) (aK : Array Bool) (a : Act) (w : World),
     (∀ j oj, ops[j]? = some oj → j ≠ i → aK.getD j true = false → (∀ e ∈ oj.after, Region.binds md e = true → e.on ≠ i) → oi.apart ops oj = true) →
     qv md ops aK → (∀ d ∈ ds, aK.getD d true = false → qu md ops i n d = true) →
     i ∈ Region.ready md ops aK → YieldsIf P ops (gp w0) oi v a → gp w0 w →
     lU P md ops Q ds fuel (aK.setIfInBounds i true) (a.put oi.dst v) w → lU P md ops Q ds (fuel + 1) aK a w := by
 intro fuel
 induction fuel with
 | zero =>
   intro aK a w _ _ _ hr hy hS H; refine ⟨fun h => (by rw [h] at hr; cases hr), fun j hj => ?_⟩
   by_cases Dj : j = i
   · subst Dj; exact hy.wpOp hi hS ⟨fun _ => gp.refl w, H⟩
   · have := ready_mono hj Dj; rw [H.1] at this
     cases this
 | succ fuel ih =>
   intro aK a w Af hc hd hr hy hS H; refine ⟨fun h => (by rw [h] at hr; cases hr), fun j hj => ?_⟩
   by_cases Dj : j = i
   · subst Dj; exact hy.wpOp hi hS ⟨fun _ => gp.refl w, H⟩
   · have h1 := H.2 j (ready_mono hj Dj); obtain ⟨Gv, oj, QA, oS⟩ := mem_ready.1 hj; have Je := (mem_ready.1 hr).1; have Jb : ∀ e ∈ oj.after, Region.binds md e = true → e.on ≠ i := fun e he hb heq => by
       have h1 := oS e he hb; rw [heq] at h1; rcases Nat.lt_or_ge i aK.size with h' | h'
       · simp [h'] at Je h1; rw [Je] at h1; cases h1
       · simp [Array.getElem?_eq_none h'] at h1
     have hjd : j ∉ ds := fun hm => zt hc (hd j hm Gv) Je hj
     have h2 := wpOp_putIf QA (Af j oj QA Dj Gv Jb) (fun cs b => EP i oi cs b hi) (fun cs b => EP j oj cs b QA) hQ hy h1; have Gw : ∀ k ok, ops[k]? = some ok → k ≠ i → (aK.setIfInBounds j true).getD k true = false →
         (∀ e ∈ ok.after, Region.binds md e = true → e.on ≠ i) → oi.apart ops ok = true := fun k ok hk YM D0 Ui => by
       refine Af k ok hk YM ?_ Ui
       by_cases FQ : j = k
       · subst FQ; exact Gv
       · rw [getD_set_ne true FQ] at D0; exact D0
     have H7 : ∀ d ∈ ds, (aK.setIfInBounds j true).getD d true = false → qu md ops i n d = true := fun d hm D0 => by
       refine hd d hm ?_
       by_cases FQ : j = d
       · subst FQ; exact Gv
       · rw [getD_set_ne true FQ] at D0; exact D0
     refine wpOp_mono (fun a' w' h3 => ⟨h3.2.1, ih (aK.setIfInBounds j true) a' w' Gw (hc.set hj) H7 (ready_mono hr (Ne.symm Dj)) h3.1 (hS.trans (h3.2.1 hjd)) ?_⟩) h2; rw [Array.setIfInBounds_comm _ _ Dj]; exact h3.2.2
theorem Gx {i : Nat} {oi : Oper} {v : Value} (hi : ops[i]? = some oi) (EP : ∀ (j : Nat) (o : Oper) cs b, ops[j]? = some o → o.op ≠ .select cs b)
   (hQ : ∀ c a w, Q (.panic c) (a.put oi.dst v) w → Q (.panic c) a w) :
   ∀ (fuel : Nat) (aK : Array Bool) (a : Act) (w : World),
     (∀ j oj, ops[j]? = some oj → j ≠ i → aK.getD j true = false → (∀ e ∈ oj.after, Region.binds md e = true → e.on ≠ i) → oi.apart ops oj = true) →
     i ∈ Region.ready md ops aK → Yields P ops oi v a →
     lU P md ops Q ds fuel (aK.setIfInBounds i true) (a.put oi.dst v) w → lU P md ops Q ds (fuel + 1) aK a w := by
 intro fuel
 induction fuel with
 | zero =>
   intro aK a w _ hr hy H; refine ⟨fun h => (by rw [h] at hr; cases hr), fun j hj => ?_⟩
   by_cases Dj : j = i
   · subst Dj; exact (hy.yieldsIf (S := fun _ => True)).wpOp hi trivial ⟨fun _ => gp.refl w, H⟩
   · have := ready_mono hj Dj; rw [H.1] at this
     cases this
 | succ fuel ih =>
   intro aK a w Af hr hy H; refine ⟨fun h => (by rw [h] at hr; cases hr), fun j hj => ?_⟩
   by_cases Dj : j = i
   · subst Dj; exact (hy.yieldsIf (S := fun _ => True)).wpOp hi trivial ⟨fun _ => gp.refl w, H⟩
   · have h1 := H.2 j (ready_mono hj Dj); obtain ⟨Gv, oj, QA, oS⟩ := mem_ready.1 hj; have Je := (mem_ready.1 hr).1; have Jb : ∀ e ∈ oj.after, Region.binds md e = true → e.on ≠ i := fun e he hb heq => by
       have h1 := oS e he hb; rw [heq] at h1; rcases Nat.lt_or_ge i aK.size with h' | h'
       · simp [h'] at Je h1; rw [Je] at h1; cases h1
       · simp [Array.getElem?_eq_none h'] at h1
     have h2 := wpOp_put QA (Af j oj QA Dj Gv Jb) (fun cs b => EP i oi cs b hi) (fun cs b => EP j oj cs b QA) hQ hy h1; have Gw : ∀ k ok, ops[k]? = some ok → k ≠ i → (aK.setIfInBounds j true).getD k true = false →
         (∀ e ∈ ok.after, Region.binds md e = true → e.on ≠ i) → oi.apart ops ok = true := fun k ok hk YM D0 Ui => by
       refine Af k ok hk YM ?_ Ui
       by_cases FQ : j = k
       · subst FQ; exact Gv
       · rw [getD_set_ne true FQ] at D0; exact D0
     refine wpOp_mono (fun a' w' h3 => ⟨h3.2.1, ih (aK.setIfInBounds j true) a' w' Gw (ready_mono hr (Ne.symm Dj)) h3.1 ?_⟩) h2; rw [Array.setIfInBounds_comm _ _ Dj]; exact h3.2.2
end
end Go.TM
namespace Go.TM
open Go Go.RowKit
def vG (i : Nat) : List Nat → Bool
 | [] => false
 | x :: l => Nat.beq x i || vG i l
def OX (ops : List Oper) (ls : List Nat) (j : Nat) : Bool :=
 match nth ops j with
 | some o => !vG j ls && o.after.toList.all fun e => !Region.binds .any e || vG e.on ls
 | none => false
def Ig (ops : Array Oper) (ER : List Oper) (n : Nat) (ls : List Nat) (i : Nat) : Bool :=
 match nth ER i with
 | some oi => (List.range n).all fun j => Nat.beq j i || (vG j ls || match nth ER j with
   | some oj => (oj.after.toList.any fun e => Region.binds .any e && Nat.beq e.on i) || oi.apart ops oj
   | none => true)
 | none => false
def Dk (ER : List Oper) (n : Nat) (ls : List Nat) (i : Nat) : Bool := (List.range n).all fun j => Nat.beq j i || !OX ER ls j
def Pl.bM : Pl → List Nat
 | .nil => []
 | .op i _ _ => [i]
 | .alt p q => p.bM ++ q.bM
def K6 (ER : List Oper) (n : Nat) (ls hs : List Nat) : Bool := (List.range n).all fun j => !OX ER ls j || vG j hs
def jf (ops : Array Oper) (ER : List Oper) (n : Nat) (ds : List Nat) : Bool → List Nat → Pl → Bool
 | al, ls, .nil => !al && (List.range n).all fun j => !OX ER ls j
 | al, ls, .op i kd r => OX ER ls i && ((match kd with
     | .any => !al && Ig ops ER n ls i
     | .take => !al && (Ig ops ER n ls i && ds.all fun d => vG d ls || qu .any ops i n d)
     | .one => al || Dk ER n ls i
     | .last => (al || Dk ER n ls i) && vG i ds) && jf ops ER n ds false (i :: ls) r)
 | al, ls, .alt p q => (al || K6 ER n ls (p.bM ++ q.bM)) && (jf ops ER n ds true ls p && jf ops ER n ds true ls q)
def Cy : Pl → List Nat
 | .nil => []
 | .op i .last l => i :: Cy l
 | .op _ _ l => Cy l
 | .alt p q => Cy p ++ Cy q
def Pl.depth : Pl → Nat
 | .nil => 0
 | .op _ _ l => l.depth + 1
 | .alt p q => Nat.max p.depth q.depth
def AI (ops : Array Oper) (l : Pl) : Bool :=
 Region.noSelect ops && (Nat.ble l.depth ops.size && jf ops ops.toList ops.size (Cy l) false [] l)
structure Nh (n : Nat) (ls : List Nat) (aK : Array Bool) : Prop where
 size : aK.size = n
 gf : ∀ j, aK.getD j false = vG j ls
 gt : ∀ j, aK.getD j true = (vG j ls || decide (n ≤ j))
theorem Nh.push {n : Nat} {ls : List Nat} {aK : Array Bool} (h : Nh n ls aK) {i : Nat} (hi : i < n) : Nh n (i :: ls) (aK.setIfInBounds i true) where
 size := by simp [h.size]
 gf := fun j => by
   unfold vG
   by_cases e : i = j
   · subst e; have : Nat.beq i i = true := Nat.beq_refl i; rw [this]; simp [h.size, hi]
   · rw [getD_set_ne false e, h.gf j]; have : Nat.beq i j = false := by
       cases hq : Nat.beq i j
       · rfl
       · exact absurd (Nat.eq_of_beq_eq_true hq) e
     simp [this]
 gt := fun j => by
   unfold vG
   by_cases e : i = j
   · subst e; simp [h.size, hi]
   · rw [getD_set_ne true e, h.gt j]; have : Nat.beq i j = false := by
       cases hq : Nat.beq i j
       · rfl
       · exact absurd (Nat.eq_of_beq_eq_true hq) e
     simp [this]
theorem Nh.none (n : Nat) : Nh n [] (Array.replicate n false) where
 size := by simp
 gf := fun j => by
   simp only [Array.getD_eq_getD_getElem?, Array.getElem?_replicate, vG]
   split <;> rfl
 gt := fun j => by
   simp only [Array.getD_eq_getD_getElem?, Array.getElem?_replicate, vG]
   split
   · rename_i h; simp; omega
   · rename_i h; simp; omega
theorem uF {ops : Array Oper} {ls : List Nat} {aK : Array Bool} (h : Nh ops.size ls aK) (j : Nat) : OX ops.toList ls j = true ↔ j ∈ Region.ready .any ops aK := by
 rw [mem_ready]; unfold OX; rw [ff, Array.getElem?_toList, h.gt j]
 cases ho : ops[j]? with
 | none => simp
 | some o =>
   have bP : j < ops.size := (Array.getElem?_eq_some_iff.1 ho).1; have hn : decide (ops.size ≤ j) = false := by simp; omega
   simp only [hn, Bool.or_false, Bool.and_eq_true, Bool.not_eq_true', List.all_eq_true, Array.mem_toList_iff, Bool.or_eq_true, Option.some.injEq, exists_eq_left', h.gf]
   constructor
   · rintro ⟨h0, h1⟩
     exact ⟨h0, fun e he hb => (h1 e he).resolve_left (by simp [hb])⟩
   · rintro ⟨h0, h1⟩
     refine ⟨h0, fun e he => ?_⟩
     cases hb : Region.binds .any e
     · exact .inl rfl
     · exact .inr (h1 e he hb)
theorem Jf {i j : Nat} (h : i ≠ j) : Nat.beq i j = false := by
 cases hq : Nat.beq i j
 · rfl
 · exact absurd (Nat.eq_of_beq_eq_true hq) h
theorem AJ {ops : Array Oper} {ls : List Nat} {aK : Array Bool} (h : Nh ops.size ls aK) {i : Nat} {oi : Oper} (hi : ops[i]? = some oi) (hf : Ig ops ops.toList ops.size ls i = true) :
   ∀ j oj, ops[j]? = some oj → j ≠ i → aK.getD j true = false → (∀ e ∈ oj.after, Region.binds .any e = true → e.on ≠ i) → oi.apart ops oj = true := by
 intro j oj hj Dj D0 Ui; unfold Ig at hf; rw [ff, Array.getElem?_toList, hi] at hf; have bP : j < ops.size := (Array.getElem?_eq_some_iff.1 hj).1; have h1 := List.all_eq_true.1 hf j (List.mem_range.2 bP); rw [ff, Array.getElem?_toList, hj, Jf Dj, Bool.false_or] at h1; rw [h.gt j, Bool.or_eq_false_iff] at D0; rw [D0.1, Bool.false_or, Bool.or_eq_true] at h1; rcases h1 with h1 | h1
 · obtain ⟨e, he, h2⟩ := List.any_eq_true.1 h1; rw [Bool.and_eq_true] at h2; exact absurd (Nat.eq_of_beq_eq_true h2.2) (Ui e (Array.mem_toList_iff.1 he) h2.1)
 · exact h1
theorem ES {ops : Array Oper} {ls : List Nat} {aK : Array Bool} (h : Nh ops.size ls aK) {i : Nat} (hf : Dk ops.toList ops.size ls i = true) : ∀ j ∈ Region.ready .any ops aK, j = i := by
 intro j hj; have bP : j < ops.size := by
   obtain ⟨_, o, ho, _⟩ := mem_ready.1 hj; exact (Array.getElem?_eq_some_iff.1 ho).1
 have h1 := List.all_eq_true.1 hf j (List.mem_range.2 bP); rw [(uF h j).2 hj, Bool.not_true, Bool.or_false] at h1; exact Nat.eq_of_beq_eq_true h1
theorem xm {P : Program} {T : jq} {S : il} {w0 : World} {mu : Mu} {c : Cz} {st aP : St} {a : Act} {w : World} {ops : Array Oper} {o : Oper} {C : World → Prop} (h : Rel w0 mu c st a w)
   (hd : ∀ k, o.dst = some k → k < a.tmps.size) (hv : (tc T S ops.toList st o).val = some aP)
   (base : (HO T S st o).val = some aP → ∃ v, (∀ w' : World, C w' → (execOp a.eval o).run P w' = .ok (.value v) w') ∧ Rel w0 mu c aP (a.put o.dst v) w) :
   ∃ v, YieldsIf P ops C o v a ∧ Rel w0 mu c aP (a.put o.dst v) w := by
 unfold tc at hv; unfold YieldsIf Region.wanted
 cases hg : o.guard with
 | none =>
   simp only [hg] at hv ⊢; obtain ⟨v, h1, h2⟩ := base hv; exact ⟨v, .inl ⟨trivial, h1⟩, h2⟩
 | some p =>
   obtain ⟨j, want⟩ := p; simp only [hg] at hv ⊢
   cases hj : (nth ops.toList j).bind (·.dst) with
   | none => simp [hj, N.val] at hv
   | some d =>
     simp only [hj] at hv
     split at hv
     · rename_i b Ky; obtain ⟨h1, h2⟩ := uw h Ky; rw [Ah (ops := ops) hj h1 h2]; have yes : (HO T S (TM.aT st (some d) (.one (.bool b))) o).val = some aP → ∃ v, (∀ w' : World, C w' → (execOp a.eval o).run P w' = .ok (.value v) w') ∧ Rel w0 mu c aP (a.put o.dst v) w := fun e => base (by rwa [uz st d Ky] at e)
       have no : (N.done (TM.aT (TM.aT st (some d) (.one (.bool b))) o.dst (.kR []))).val = some aP → Rel w0 mu c aP (a.put o.dst undef) w := by
         intro e; simp only [N.val, Option.some.injEq] at e; subst e; rw [uz st d Ky]; exact h.aT (uA _ _ _) hd
       rcases tn hv with ⟨hb, zB⟩ | ⟨hb, zB⟩
       · subst hb
         cases want
         · exact ⟨undef, .inr ⟨rfl, rfl⟩, no zB⟩
         · obtain ⟨v, h3, h4⟩ := yes zB; exact ⟨v, .inl ⟨rfl, h3⟩, h4⟩
       · subst hb
         cases want
         · obtain ⟨v, h3, h4⟩ := yes zB; exact ⟨v, .inl ⟨rfl, h3⟩, h4⟩
         · exact ⟨undef, .inr ⟨rfl, rfl⟩, no zB⟩
     · rename_i Ky; simp only [N.val, Option.some.injEq] at hv; subst hv; rw [vf (ops := ops) hj (Ai h Ky)]; exact ⟨undef, .inr ⟨by cases want <;> rfl, rfl⟩, h.aT (uA _ _ _) hd⟩
     · simp [N.val] at hv
theorem NN {P : Program} {T : jq} (hT : fq P T) {S : il} {w0 : World} {mu : Mu} {c : Cz} {st : St} {a : Act} {w : World} (h : Rel w0 mu c st a w) {o : Oper} (hk : kindOk S st o .take = true)
   {aP : St} (hv : (HO T S st o).val = some aP) (hd : ∀ k, o.dst = some k → k < a.tmps.size) : ∃ v, (∀ w' : World, gp w w' → (execOp a.eval o).run P w' = .ok (.value v) w') ∧ Rel w0 mu c aP (a.put o.dst v) w := by
 unfold kindOk at hk; unfold HO at hv
 cases ho : o.op with
 | load t x =>
   simp only [ho] at hv; obtain ⟨v, h1, h2⟩ := D4 hT h (bh h x) hv hd; exact ⟨v, fun w' hw => by simp only [execOp, ho]; exact oQ (h1 w' hw), h2⟩
 | _ => simp [ho] at hk
theorem xn {i : Nat} : (l : List Nat) → vG i l = true → i ∈ l
 | [], h => by cases h
 | x :: l, h => by
   unfold vG at h; rw [Bool.or_eq_true] at h; rcases h with h | h
   · rw [Nat.eq_of_beq_eq_true h]; exact List.mem_cons_self
   · exact List.mem_cons_of_mem _ (xn l h)
theorem tK {R : Type} {P : Program} {T : jq} (hT : fq P T) (hE : uP P T) {S : il} {w0 : World} {mu : Mu} {n : Nat} (BK : p8 P T S w0 mu n) {ops : Array Oper} {ds : List Nat} {Q : Exit → Act → World → Prop} (hQ : ∀ c a w, ¬ Q (.panic c) a w)
   {k : St → Option R} {r : R} (hk : Next w0 mu n r k (Q .normal)) (QB : Region.noSelect ops = true) (sV : vB n ops.toList = true) :
   (l : Pl) → (ls : List Nat) → (aK : Array Bool) → (fuel : Nat) → {c : Cz} → {st : St} → {a : Act} → {w : World} → Nh ops.size ls aK → qv .any ops aK → l.depth ≤ fuel →
     Rel w0 mu c st a w → a.tmps.size = n → mT T S ops.toList l st k = some r →
     (jf ops ops.toList ops.size ds false ls l = true → lU P .any ops Q ds fuel aK a w) ∧
     (jf ops ops.toList ops.size ds true ls l = true → ∃ ET, fuel = ET + 1 ∧ ∀ i ∈ l.bM, i ∈ Region.ready .any ops aK ∧ wpOp P ops Q i (fun a' w' => (i ∉ ds → gp w w') ∧ lU P .any ops Q ds ET (aK.setIfInBounds i true) a' w') a w)
 | .nil, ls, aK, fuel, c, st, a, w, hl, _, _, h, hn, hv => by
   refine ⟨fun hb => ?_, fun hb => by simp [jf] at hb⟩; unfold jf at hb; rw [Bool.and_eq_true] at hb; have hr : Region.ready .any ops aK = [] := by
     refine List.eq_nil_iff_forall_not_mem.2 fun j hj => ?_
     obtain ⟨_, o, ho, _⟩ := mem_ready.1 hj; have bP : j < ops.size := (Array.getElem?_eq_some_iff.1 ho).1; have h1 := List.all_eq_true.1 hb.2 j (List.mem_range.2 bP); rw [(uF hl j).2 hj] at h1
     cases h1
   have hq := hk h hn hv
   cases fuel with
   | zero => exact ⟨hr, hq⟩
   | succ fuel => exact ⟨fun _ => hq, fun i hi => by rw [hr] at hi; cases hi⟩
 | .op i kd l, ls, aK, 0, c, st, a, w, hl, _, hf, h, hn, hv => absurd hf (by simp [Pl.depth])
 | .op i kd l, ls, aK, fuel + 1, c, st, a, w, hl, hs, hf, h, hn, hv => by
   have hf : l.depth ≤ fuel := Nat.le_of_succ_le_succ hf; have first : ∀ al, jf ops ops.toList ops.size ds al ls (.op i kd l) = true → OX ops.toList ls i = true ∧ jf ops ops.toList ops.size ds false (i :: ls) l = true := by
     intro al hb; unfold jf at hb; rw [Bool.and_eq_true, Bool.and_eq_true] at hb; exact ⟨hb.1, hb.2.2⟩
   have step : OX ops.toList ls i = true → jf ops ops.toList ops.size ds false (i :: ls) l = true → (kd = .one ∨ i ∈ ds) → wpOp P ops Q i (fun a' w' => (i ∉ ds → gp w w') ∧ lU P .any ops Q ds fuel (aK.setIfInBounds i true) a' w') a w := by
     intro QC ey YN; have OY := (uF hl i).1 QC; obtain ⟨_, o, Ie, _⟩ := mem_ready.1 OY; have bP : i < ops.size := (Array.getElem?_eq_some_iff.1 Ie).1; unfold mT at hv; rw [ff, Array.getElem?_toList, Ie] at hv; obtain ⟨Ni, hv⟩ := aD hv; rw [N.fold_eq] at hv; obtain ⟨aP, h1, h2⟩ := Option.bind_eq_some_iff.1 hv; have H7 : ∀ k, o.dst = some k → k < a.tmps.size := fun k hk => by rw [hn]; exact xX sV (by rw [Array.mem_toList_iff]; exact Array.mem_of_getElem? Ie) k hk
     have next : ∀ {c' : Cz} {a' : Act} {w' : World}, Rel w0 mu c' aP a' w' → a'.tmps.size = n → lU P .any ops Q ds fuel (aK.setIfInBounds i true) a' w' := fun hr IL =>
       (tK hT hE BK hQ hk QB sV l (i :: ls) _ fuel (hl.push bP) (hs.set OY) hf hr IL h2).1 ey
     have hko : kd = .one → kindOk S st o .one = true := fun e => by rw [e] at Ni; exact Ni
     unfold wpOp; rw [Ie]; rcases En BK h hn (fun k hk => by rw [← hn]; exact H7 k hk) h1 with ⟨hw, qm⟩ | ⟨hw, tE⟩
     · simp only [hw, if_true]; refine .inl (Oper.wp_mono (fun a' w' ⟨⟨c', hr, jK⟩, NA⟩ => ⟨fun IN => ?_, next hr (jK.trans hn)⟩) (qm Q)); rcases YN with e | e
       · exact NA (hko e)
       · exact absurd e IN
     · simp only [hw, Bool.false_eq_true, if_false]; exact ⟨fun _ => gp.refl w, next tE ((oP _ _ _).trans hn)⟩
   refine ⟨fun hb => ?_, fun hb => ⟨fuel, rfl, fun j hj => ?_⟩⟩
   · obtain ⟨QC, ey⟩ := first _ hb; have OY := (uF hl i).1 QC; unfold jf at hb; rw [Bool.and_eq_true, Bool.and_eq_true] at hb; obtain ⟨_, Ih, _⟩ := hb; have alone : Dk ops.toList ops.size ls i = true → (kd = .one ∨ i ∈ ds) → lU P .any ops Q ds (fuel + 1) aK a w := by
       intro hal YN; refine ⟨fun e => absurd OY (by rw [e]; exact List.not_mem_nil), fun j hj => ?_⟩; have := ES hl hal j hj; subst this; exact step QC ey YN
     obtain ⟨_, o, Ie, _⟩ := mem_ready.1 OY; have bP : i < ops.size := (Array.getElem?_eq_some_iff.1 Ie).1; unfold mT at hv; rw [ff, Array.getElem?_toList, Ie] at hv; obtain ⟨Ni, hv⟩ := aD hv; rw [N.fold_eq] at hv; obtain ⟨aP, h1, h2⟩ := Option.bind_eq_some_iff.1 hv; have H7 : ∀ k, o.dst = some k → k < a.tmps.size := fun k hk => by rw [hn]; exact xX sV (by rw [Array.mem_toList_iff]; exact Array.mem_of_getElem? Ie) k hk
     have next : ∀ {c' : Cz} {a' : Act} {w' : World}, Rel w0 mu c' aP a' w' → a'.tmps.size = n → lU P .any ops Q ds fuel (aK.setIfInBounds i true) a' w' := fun hr IL =>
       (tK hT hE BK hQ hk QB sV l (i :: ls) _ fuel (hl.push bP) (hs.set OY) hf hr IL h2).1 ey
     have EP := Region.noSelect_spec QB
     cases kd with
     | one => exact alone (by simpa using Ih) (.inl rfl)
     | last =>
       simp only [Bool.false_or, Bool.and_eq_true] at Ih; exact alone Ih.1 (.inr (xn ds Ih.2))
     | any =>
       simp only [Bool.not_false, Bool.true_and] at Ih; obtain ⟨v, hy, tE⟩ := xm (P := P) (ops := ops) (C := fun _ => True) h H7 h1 (fun e => by
         obtain ⟨v, g1, g2⟩ := HY hT hE h Ni e H7; exact ⟨v, fun w' _ => g1 w', g2⟩)
       refine Gx Ie EP (fun c a w hq => absurd hq (hQ _ _ _)) fuel aK a w (AJ hl Ie Ih) OY ?_ (next tE ((oP _ _ _).trans hn)); rcases hy with ⟨g1, g2⟩ | g
       · exact .inl ⟨g1, fun w' => g2 w' trivial⟩
       · exact .inr g
     | take =>
       simp only [Bool.not_false, Bool.true_and, Bool.and_eq_true] at Ih; obtain ⟨v, hy, tE⟩ := xm (P := P) (ops := ops) (C := gp w) h H7 h1 (fun e => NN hT h Ni e H7); refine Di Ie EP (fun c a w hq => absurd hq (hQ _ _ _)) ops.size fuel aK a w (AJ hl Ie Ih.1) hs (fun d hm D0 => ?_) OY hy (gp.refl w) (next tE ((oP _ _ _).trans hn)); have h3 := List.all_eq_true.1 Ih.2 d hm; rw [hl.gt d, Bool.or_eq_false_iff] at D0; rw [D0.1, Bool.false_or] at h3; exact h3
   · have hj : j = i := by simpa [Pl.bM] using hj
     subst hj; obtain ⟨QC, ey⟩ := first _ hb; refine ⟨(uF hl j).1 QC, step QC ey ?_⟩; unfold jf at hb; rw [Bool.and_eq_true, Bool.and_eq_true] at hb; obtain ⟨_, Ih, _⟩ := hb
     cases kd with
     | one => exact .inl rfl
     | last =>
       simp only [Bool.true_or, Bool.true_and] at Ih; exact .inr (xn ds Ih)
     | any => simp at Ih
     | take => simp at Ih
 | .alt p q, ls, aK, fuel, c, st, a, w, hl, hs, hf, h, hn, hv => by
   have hv : both (mT T S ops.toList p st k) (mT T S ops.toList q st k) = some r := hv; obtain ⟨zB, Gn⟩ := IC hv; have hf : Nat.max p.depth q.depth ≤ fuel := hf; have hp := (tK (ds := ds) hT hE BK hQ hk QB sV p ls aK fuel hl hs (Nat.le_trans (Nat.le_max_left _ _) hf) h hn zB).2; have hq := (tK (ds := ds) hT hE BK hQ hk QB sV q ls aK fuel hl hs (Nat.le_trans (Nat.le_max_right _ _) hf) h hn Gn).2; have bM : jf ops ops.toList ops.size ds true ls p = true → jf ops ops.toList ops.size ds true ls q = true → ∃ ET, fuel = ET + 1 ∧ ∀ i ∈ p.bM ++ q.bM, i ∈ Region.ready .any ops aK ∧ wpOp P ops Q i (fun a' w' => (i ∉ ds → gp w w') ∧ lU P .any ops Q ds ET (aK.setIfInBounds i true) a' w') a w := by
     intro h1 h2; obtain ⟨f1, e1, g1⟩ := hp h1; obtain ⟨f2, e2, g2⟩ := hq h2; have : f1 = f2 := by omega
     subst this; exact ⟨f1, e1, fun i hi => (List.mem_append.1 hi).elim (g1 i) (g2 i)⟩
   have parts : ∀ al, jf ops ops.toList ops.size ds al ls (.alt p q) = true → (al || K6 ops.toList ops.size ls (p.bM ++ q.bM)) = true ∧ jf ops ops.toList ops.size ds true ls p = true ∧ jf ops ops.toList ops.size ds true ls q = true := by
     intro al hb; unfold jf at hb; rw [Bool.and_eq_true, Bool.and_eq_true] at hb; exact hb
   refine ⟨fun hb => ?_, fun hb => ?_⟩
   · obtain ⟨hc, h1, h2⟩ := parts _ hb; obtain ⟨f, rfl, g⟩ := bM h1 h2; have YO : ∀ j ∈ Region.ready .any ops aK, j ∈ p.bM ++ q.bM := by
       intro j hj; have bP : j < ops.size := by
         obtain ⟨_, o, ho, _⟩ := mem_ready.1 hj; exact (Array.getElem?_eq_some_iff.1 ho).1
       rw [Bool.false_or] at hc; have h1 := List.all_eq_true.1 hc j (List.mem_range.2 bP); rw [(uF hl j).2 hj, Bool.not_true, Bool.false_or] at h1; exact xn _ h1
     refine ⟨fun e => ?_, fun j hj => (g j (YO j hj)).2⟩; have fp : ∃ i, i ∈ p.bM ++ q.bM := by
       have key : ∀ (l : Pl), jf ops ops.toList ops.size ds true ls l = true → ∃ i, i ∈ l.bM := by
         intro l
         induction l with
         | nil => intro h; simp [jf] at h
         | op i _ _ _ => intro _; exact ⟨i, by simp [Pl.bM]⟩
         | alt p q ih _ =>
           intro h; unfold jf at h; rw [Bool.and_eq_true, Bool.and_eq_true] at h; obtain ⟨i, hi⟩ := ih h.2.1; exact ⟨i, List.mem_append_left _ hi⟩
       obtain ⟨i, hi⟩ := key p h1; exact ⟨i, List.mem_append_left _ hi⟩
     obtain ⟨i, hi⟩ := fp; have := (g i hi).1; rw [e] at this
     cases this
   · obtain ⟨_, h1, h2⟩ := parts _ hb; exact bM h1 h2
theorem qN {R : Type} {P : Program} {T : jq} (hT : fq P T) (hE : uP P T) (hm : P.follows .mixedOrders = true) {S : il} {D : jb} {w0 : World} {mu : Mu} {n : Nat} (BK : p8 P T S w0 mu n) :
   ow R P T S D w0 mu n (fun id ops => AI ops (D id) = true) := by
 intro id ops Q k r fb sV hk c st a w h hn hv; unfold AI at fb; rw [Bool.and_eq_true, Bool.and_eq_true] at fb; obtain ⟨QB, hlen, hb⟩ := fb
 let Q' : Exit → Act → World → Prop := fun e a w => e = .normal ∧ Q .normal a w
 have key : (Code.region id ops true).wp P Q' a w := by
   refine wp_region_any hm (vi _ _ _ _ ((tK hT hE BK (ds := Cy (D id)) (Q := Q') (fun c a w hq => by cases hq.1) (fun {c st a w} g1 g2 g3 => ⟨rfl, hk g1 g2 g3⟩) QB sV (D id) [] _ ops.size (Nh.none _) (qv.none _ _ _) (Nat.le_of_ble_eq_true hlen) h.drew hn hv).1 hb))
 exact Code.wp_mono (fun e a w hq => by obtain ⟨rfl, hq⟩ := hq; exact hq) key
end Go.TM
namespace Go.TM
open Go Go.RowKit
abbrev NO : RT → Type → Type
 | .nil, R => R
 | .cons t r, R => den t → NO r R
abbrev pL {R : Type} : (r : RT) → NO r R → ak r → R
 | .nil, f, _ => f
 | .cons _ r, f, x => pL r (f x.1) x.2
def lD : jb := fun _ => .nil
def SF {R : Type} : kV R := fun _ _ _ _ => none
def K8 (f : Func) : Code := match f.body with | some c => c | none => .skip
def nn : Nat → List (Option AP)
 | 0 => []
 | n + 1 => none :: nn n
structure Rec where
 size : Nat
 agg : Bool
 bL : List (Nat × Nat)
 row : Option RT
 elem : Option (RT × Nat)
 kind : Option Ty
 jr : List Nat
 eq : Bool
 dp : Bool := false
 cap : Bool := false
inductive Tr where
 | leaf
 | node (l : Tr) (k : Nat) (v : Rec) (r : Tr)
def Tr.flat : Tr → Tr
 | .leaf => .leaf
 | .node l k v r => .node l.flat k { v with dp := false } r.flat
def Tr.uO (l : List Nat) : Tr → Tr
 | .leaf => .leaf
 | .node a k v b => .node (a.uO l) k { v with cap := l.any (Nat.beq k) } (b.uO l)
def Tr.find : Tr → Nat → Option Rec
 | .leaf, _ => none
 | .node l k v r, t => bif Nat.beq t k then some v else bif Nat.blt t k then l.find t else r.find t
def Tr.all (p : Nat → Rec → Bool) : Tr → Bool
 | .leaf => true
 | .node l k v r => l.all p && (p k v && r.all p)
theorem Tr.xo {p : Nat → Rec → Bool} : (tr : Tr) → tr.all p = true → ∀ {t v}, tr.find t = some v → p t v = true
 | .leaf, _, _, _, h => by cases h
 | .node l k v r, h, t, u, hf => by
   unfold Tr.all at h; rw [Bool.and_eq_true, Bool.and_eq_true] at h; unfold Tr.find at hf
   cases hb : Nat.beq t k with
   | true =>
     rw [hb] at hf; injection hf with hf; subst hf; rw [Nat.eq_of_beq_eq_true hb]; exact h.2.1
   | false =>
     rw [hb] at hf
     cases hl : Nat.blt t k with
     | true => rw [hl] at hf; exact Tr.xo l h.1 hf
     | false => rw [hl] at hf; exact Tr.xo r h.2.2 hf
def jD (tr : Tr) : jq where
 cells t := (tr.find t).map (·.size)
 agg t := match tr.find t with | some r => r.agg | none => false
 off t f := match tr.find t with | some r => (nth r.bL f).map (·.1) | none => none
 Tk t f := match tr.find t with | some r => (nth r.bL f).map (·.2) | none => none
 row t := match tr.find t with | some r => r.row | none => none
 elem t := match tr.find t with | some r => r.elem | none => none
 kR _ := none
 kind t := match tr.find t with | some r => r.kind | none => none
 one t f := match tr.find t with | some r => r.jr.any (Nat.beq f) | none => false
 eq t := match tr.find t with | some r => r.eq | none => false
 dp t := match tr.find t with | some r => r.dp | none => false
 cap t := match tr.find t with | some r => r.cap | none => false
def kD : RT → List Value → Bool
 | .nil, [] => true
 | .cons (.int k) r, .int l n :: vs => decide (k = l) && decide (n = 0) && kD r vs
 | .cons .bool r, .bool b :: vs => !b && kD r vs
 | .cons .str r, .string s :: vs => (match s.data.toList with | [] => true | _ => false) && kD r vs
 | .cons (.sl _) r, .slice none 0 0 :: vs => kD r vs
 | _, _ => false
theorem qO : (r : RT) → (vs : List Value) → kD r vs = true → gH r vs
 | .nil, [], _ => rfl
 | .nil, _ :: _, h => by simp [kD] at h
 | .cons t r, [], h => by cases t <;> simp [kD] at h
 | .cons t r, v :: vs, h => by
   cases t with
   | int k =>
     cases v <;> try (simp [kD] at h; done)
     rename_i l n; simp only [kD, Bool.and_eq_true, decide_eq_true_eq] at h; obtain ⟨⟨rfl, rfl⟩, h⟩ := h; exact ⟨vs, rfl, qO r vs h⟩
   | bool =>
     cases v <;> try (simp [kD] at h; done)
     rename_i b; simp only [kD, Bool.and_eq_true, Bool.not_eq_true'] at h; obtain ⟨rfl, h⟩ := h; exact ⟨vs, rfl, qO r vs h⟩
   | str =>
     cases v <;> try (simp [kD] at h; done)
     rename_i s; simp only [kD, Bool.and_eq_true] at h; obtain ⟨h1, h⟩ := h; refine ⟨vs, ?_, qO r vs h⟩; obtain ⟨d⟩ := s; obtain ⟨d⟩ := d
     cases d with
     | nil => rfl
     | cons _ _ => simp at h1
   | sl q =>
     cases v <;> try (simp [kD] at h; done)
     rename_i a n m
     cases a with
     | some _ => simp [kD] at h
     | none => cases n with
       | succ _ => simp [kD] at h
       | zero => cases m with
         | succ _ => simp [kD] at h
         | zero =>
           have h : kD r vs = true := h; exact ⟨vs, rfl, qO r vs h⟩
def qa {α : Type} (o : Option α) (p : α → Bool) : Bool := match o with | some x => p x | none => false
theorem eG {α : Type} {o : Option α} {p : α → Bool} (h : qa o p = true) : ∃ x, o = some x ∧ p x = true := by
 cases o with
 | none => cases h
 | some x => exact ⟨x, rfl, h⟩
def rF (P : Program) : List Field → List (Nat × Nat) → Bool
 | [], [] => true
 | f :: fs, (o, s) :: ps => Nat.beq f.offset o && (qa (P.info? f.type) (fun i => Nat.beq i.size s) && (Nat.blt 0 s && rF P fs ps))
 | _, _ => false
theorem vH {P : Program} : (fs : List Field) → (ps : List (Nat × Nat)) → rF P fs ps = true →
   fs.mapM (fun f => (P.info? f.type).map fun i => (f.offset, i.size)) = some ps ∧ ∀ (k : Nat) p, ps[k]? = some p → ∃ Ca n, fs[k]? = some Ca ∧ Ca.offset = p.1 ∧ (P.info? Ca.type).map (·.size) = some (n + 1)
 | [], [], _ => ⟨rfl, fun k p h => by simp at h⟩
 | [], _ :: _, h => by simp [rF] at h
 | _ :: _, [], h => by simp [rF] at h
 | f :: fs, (o, s) :: ps, h => by
   unfold rF at h; rw [Bool.and_eq_true, Bool.and_eq_true, Bool.and_eq_true] at h; obtain ⟨h1, h2, h3, h4⟩ := h; obtain ⟨i, hi, Uj⟩ := eG h2; have h1 := Nat.eq_of_beq_eq_true h1; have Uj := Nat.eq_of_beq_eq_true Uj; obtain ⟨g1, g2⟩ := vH fs ps h4; refine ⟨by simp [List.mapM_cons, hi, g1, h1, Uj], fun k p hp => ?_⟩
   cases k with
   | zero =>
     simp at hp; subst hp; have h3 : 0 < s := Nat.le_of_ble_eq_true h3; exact ⟨f, s - 1, rfl, h1, by rw [hi]; simp [Uj]; omega⟩
   | succ k => exact g2 k p (by simpa using hp)
def EU (P : Program) (t : Nat) : Ty → Bool
 | .int k => qa (P.underlying t) fun | .int l => decide (k = l) | _ => false
 | .bool => qa (P.underlying t) fun | .bool => true | _ => false
 | .str => qa (P.underlying t) fun | .string => true | _ => false
 | .sl _ => false
def Dl (P : Program) (t : Nat) (r : Rec) : Bool :=
 qa (P.info? t) (fun i => Nat.beq i.size r.size && (match r.row with | some q => qa i.zero (fun z => kD q z.cells.toList) | none => true)) &&
 (qa (P.underlying t) (fun d => (d.isRow == r.agg) && (bif r.agg then true else Nat.beq r.size 1) && (match d with | .struct fs => bif r.agg then rF P fs.toList r.bL else Nat.beq r.bL.length 0 | _ => !r.agg && Nat.beq r.bL.length 0)
     && (match r.elem with | some (q, b) => (match d with | .slice e => qa (P.info? e) (fun i => Nat.beq i.size q.width && (Nat.blt 0 q.width && (Nat.beq i.bytes b && (Nat.blt 0 b && qa i.zero (fun z => kD q z.cells.toList))))) | _ => false) | none => true)) &&
 ((match r.kind with | some k => EU P t k | none => true) && (match r.elem with | some (.cons (.int .u8) .nil, _) => qa (P.underlying t) (fun d => match d with | .slice e => EU P e (.int .u8) | _ => false) | _ => true)))
def OZ (P : Program) (t : Nat) (l : List Nat) : Bool := l.all fun f => qa (P.underlying t) fun d => match d with | .struct fs => qa fs[f]? (fun Ca => qa (P.underlying Ca.type) fun e => !e.isRow) | _ => false
def vj (P : Program) (t : Nat) (r : Rec) : Bool := Dl P t r && OZ P t r.jr
theorem iN {P : Program} {tr : Tr} (h : tr.all (vj P) = true) : fq P (jD tr) := by
 have Uk : ∀ {t r}, tr.find t = some r → vj P t r = true := fun hf => Tr.xo tr h hf
 have get : ∀ {t r}, tr.find t = some r → Dl P t r = true := fun hf => (Bool.and_eq_true _ _ ▸ Uk hf).1
 have base : ∀ {t r}, tr.find t = some r → (∃ i, P.info? t = some i ∧ i.size = r.size ∧ ∀ q, r.row = some q → ∃ z, i.zero = some z ∧ gH q z.cells.toList) ∧
     (∃ d, P.underlying t = some d ∧ d.isRow = r.agg ∧ (r.agg = false → r.size = 1) ∧ (r.bL ≠ [] ∨ r.agg = true → ∃ fs, d = .struct fs ∧ rF P fs.toList r.bL = true) ∧
       ∀ q b, r.elem = some (q, b) → ∃ e i z, d = .slice e ∧ P.info? e = some i ∧ i.size = q.width ∧ 0 < q.width ∧ i.bytes = b ∧ 0 < b ∧ i.zero = some z ∧ gH q z.cells.toList) ∧
     ∀ k, r.kind = some k → EU P t k = true := by
   intro t r hf; have h1 := get hf; unfold Dl at h1; rw [Bool.and_eq_true, Bool.and_eq_true, Bool.and_eq_true] at h1; obtain ⟨h1, h2, h3, _⟩ := h1; obtain ⟨i, hi, h4⟩ := eG h1; rw [Bool.and_eq_true] at h4; obtain ⟨d, hd, h5⟩ := eG h2; rw [Bool.and_eq_true, Bool.and_eq_true, Bool.and_eq_true] at h5; obtain ⟨⟨⟨g1, g2⟩, g3⟩, g4⟩ := h5; refine ⟨⟨i, hi, Nat.eq_of_beq_eq_true h4.1, fun q hq => ?_⟩, ⟨d, hd, by simpa using g1, fun Ia => ?_, fun fp => ?_, fun q b he => ?_⟩, fun k hk => ?_⟩
   · have h6 := h4.2; rw [hq] at h6; obtain ⟨z, hz, h7⟩ := eG h6; exact ⟨z, hz, qO q _ h7⟩
   · rw [Ia] at g2; exact Nat.eq_of_beq_eq_true g2
   · cases Ia : r.agg with
     | true =>
       rw [Ia] at g3
       cases d with
       | struct fs => exact ⟨fs, rfl, g3⟩
       | _ => simp at g3
     | false =>
       rw [Ia] at g3; rcases fp with fp | fp
       · have : Nat.beq r.bL.length 0 = true := by
           cases d with
           | struct fs => exact g3
           | _ => simpa using g3
         exact absurd (List.length_eq_zero_iff.1 (Nat.eq_of_beq_eq_true this)) fp
       · rw [Ia] at fp; cases fp
   · rw [he] at g4
     cases d with
     | slice e =>
       obtain ⟨i, h6, h7⟩ := eG g4; rw [Bool.and_eq_true, Bool.and_eq_true, Bool.and_eq_true, Bool.and_eq_true] at h7; obtain ⟨k1, k2, k3, k4, k5⟩ := h7; obtain ⟨z, hz, h8⟩ := eG k5; exact ⟨e, i, z, rfl, h6, Nat.eq_of_beq_eq_true k1, Nat.le_of_ble_eq_true k2, Nat.eq_of_beq_eq_true k3, Nat.le_of_ble_eq_true k4, hz, qO q _ h8⟩
     | _ => cases g4
   · rw [hk] at h3; exact h3
 have look : ∀ {α : Type} {t : Nat} {g : Rec → Option α} {x : α}, (match tr.find t with | some r => g r | none => none) = some x → ∃ r, tr.find t = some r ∧ g r = some x := by
   intro α t g x hx
   cases hf : tr.find t with
   | none => rw [hf] at hx; cases hx
   | some r => rw [hf] at hx; exact ⟨r, rfl, hx⟩
 have Ul : ∀ {t : Nat} {g : Rec → Bool}, (match tr.find t with | some r => g r | none => false) = true → ∃ r, tr.find t = some r ∧ g r = true := by
   intro t g hx
   cases hf : tr.find t with
   | none => rw [hf] at hx; cases hx
   | some r => rw [hf] at hx; exact ⟨r, rfl, hx⟩
 exact {
   cells := fun t n ht => by
     obtain ⟨r, hf, rfl⟩ := Option.map_eq_some_iff.1 ht; obtain ⟨⟨i, hi, hs, _⟩, _⟩ := base hf; rw [hi]; simp [hs]
   agg := fun t n ht => by
     obtain ⟨r, hf, rfl⟩ := Option.map_eq_some_iff.1 ht; obtain ⟨_, ⟨d, hd, h1, h2, _⟩, _⟩ := base hf; have e : (jD tr).agg t = r.agg := by show (match tr.find t with | some r => r.agg | none => false) = _; rw [hf]
     exact ⟨d, hd, h1.trans e.symm, fun h => h2 (e ▸ h)⟩
   off := fun t f k ht => by
     obtain ⟨r, hf, hk⟩ := look ht; obtain ⟨p, hp, rfl⟩ := Option.map_eq_some_iff.1 hk; obtain ⟨_, ⟨d, hd, _, _, h3, _⟩, _⟩ := base hf; rw [ff] at hp; obtain ⟨fs, rfl, YP⟩ := h3 (.inl (by intro e; rw [e] at hp; simp at hp)); obtain ⟨Ca, n, g1, g2, g3⟩ := (vH fs.toList r.bL YP).2 f p hp; exact ⟨fs, Ca, n, hd, by simpa using g1, g2, g3⟩
   bld := fun t ht => by
     obtain ⟨r, hf, Ia⟩ := Ul (g := fun r => r.agg) ht; obtain ⟨_, ⟨d, hd, _, _, h3, _⟩, _⟩ := base hf; obtain ⟨fs, rfl, YP⟩ := h3 (.inr Ia); refine ⟨fs, r.bL, hd, (vH fs.toList r.bL YP).1, fun f o s ho hs => ?_⟩; have ho : (match tr.find t with | some r => (nth r.bL f).map (·.1) | none => none) = some o := ho; have hs : (match tr.find t with | some r => (nth r.bL f).map (·.2) | none => none) = some s := hs; rw [hf] at ho hs; obtain ⟨p, hp, rfl⟩ := Option.map_eq_some_iff.1 ho; obtain ⟨p', jd, rfl⟩ := Option.map_eq_some_iff.1 hs; rw [hp] at jd; injection jd with e; subst e; rw [ff] at hp; exact hp
   row := fun t q ht => by
     obtain ⟨r, hf, hk⟩ := look (g := fun r => r.row) ht; obtain ⟨⟨i, hi, _, h1⟩, _⟩ := base hf; obtain ⟨z, hz, IP⟩ := h1 q hk; exact ⟨i, z, hi, hz, IP⟩
   elem := fun t q b ht => by
     obtain ⟨r, hf, hk⟩ := look (g := fun r => r.elem) ht; obtain ⟨_, ⟨d, hd, _, _, _, h4⟩, _⟩ := base hf; obtain ⟨e, i, z, rfl, h5⟩ := h4 q b hk; exact ⟨e, i, z, hd, h5⟩
   u8 := fun t e b ht hu => by
     obtain ⟨r, hf, hk⟩ := look (g := fun r => r.elem) ht; have h1 := get hf; unfold Dl at h1; rw [Bool.and_eq_true, Bool.and_eq_true, Bool.and_eq_true] at h1; have h2 := h1.2.2.2; rw [hk] at h2; obtain ⟨d, hd, h3⟩ := eG h2; rw [hu] at hd; injection hd with hd; subst hd; obtain ⟨d2, hd2, h4⟩ := eG h3; rw [hd2]
     cases d2 <;> simp at h4
     rw [← h4]
   one := fun t f ht => by
     have ht : (match tr.find t with | some r => r.jr.any (Nat.beq f) | none => false) = true := ht
     cases hf : tr.find t with
     | none => rw [hf] at ht; cases ht
     | some r =>
       rw [hf] at ht; have h2 : OZ P t r.jr = true := (Bool.and_eq_true _ _ ▸ Uk hf).2; obtain ⟨g, hg, hb⟩ := List.any_eq_true.1 ht; have hb := Nat.eq_of_beq_eq_true hb; subst hb; have h3 := List.all_eq_true.1 h2 f hg; obtain ⟨d, hd, h4⟩ := eG h3
       cases d with
       | struct fs =>
         obtain ⟨Ca, YQ, h5⟩ := eG h4; obtain ⟨e, he, h6⟩ := eG h5; exact ⟨fs, Ca, e, hd, YQ, he, by simpa using h6⟩
       | _ => cases h4
   kind := fun t y ht => by
     obtain ⟨r, hf, hk⟩ := look (g := fun r => r.kind) ht; have h1 := (base hf).2.2 y hk
     cases y with
     | int k =>
       obtain ⟨d, hd, h2⟩ := eG h1; refine ⟨d, hd, ?_⟩
       cases d <;> simp at h2
       rw [h2]; rfl
     | bool =>
       obtain ⟨d, hd, h2⟩ := eG h1; refine ⟨d, hd, ?_⟩
       cases d <;> simp at h2
       rfl
     | str =>
       obtain ⟨d, hd, h2⟩ := eG h1; refine ⟨d, hd, ?_⟩
       cases d <;> simp at h2
       rfl
     | sl _ => cases h1 }
end Go.TM
namespace Go.TM
open Go Go.RowKit
def cC : Code → List (Nat × Code)
 | .seq a b => cC a ++ cC b
 | .cond _ a b => cC a ++ cC b
 | .block id (.loop b) => [(id, b)]
 | .block _ a => cC a
 | _ => []
theorem nW {ok : Nat → Code → Prop} : (c : Code) → (∀ p ∈ cC c, ok p.1 p.2) → cP ok c := by
 intro c
 induction c with
 | seq a b QD QE =>
   intro h; unfold cC at h; exact ⟨QD fun p hp => h p (List.mem_append_left _ hp), QE fun p hp => h p (List.mem_append_right _ hp)⟩
 | cond x a b QD QE =>
   intro h; unfold cC at h; exact ⟨QD fun p hp => h p (List.mem_append_left _ hp), QE fun p hp => h p (List.mem_append_right _ hp)⟩
 | block id a ih =>
   intro h
   by_cases hb : ∃ b', a = .loop b'
   · obtain ⟨b', rfl⟩ := hb; exact h (id, b') (by unfold cC; exact List.mem_cons_self)
   · cases a with
     | loop b' => exact absurd ⟨b', rfl⟩ hb
     | _ => unfold cC at h; unfold cP; exact ih h
 | _ => intro _; unfold cP; trivial
def Ii (c : Code) (i : Nat) : Code := match nth (cC c) i with | some p => p.2 | none => .skip
def gP (D : jb) : Code → Bool
 | .region id ops true => AI ops (D id)
 | .seq a b => gP D a && gP D b
 | .cond _ a b => gP D a && gP D b
 | .block _ (.loop _) => true
 | .block _ a => gP D a
 | _ => true
theorem qb {D : jb} : (c : Code) → gP D c = true → dq (fun id ops => AI ops (D id) = true) c := by
 intro c
 induction c with
 | region id ops dr =>
   intro h
   cases dr with
   | true => exact h
   | false => unfold dq; trivial
 | seq a b QD QE =>
   intro h; unfold gP at h; rw [Bool.and_eq_true] at h; exact ⟨QD h.1, QE h.2⟩
 | cond x a b QD QE =>
   intro h; unfold gP at h; rw [Bool.and_eq_true] at h; exact ⟨QD h.1, QE h.2⟩
 | block id a ih =>
   intro h
   by_cases hb : ∃ b', a = .loop b'
   · obtain ⟨b', rfl⟩ := hb; unfold dq; trivial
   · cases a with
     | loop b' => exact absurd ⟨b', rfl⟩ hb
     | _ => unfold gP at h; unfold dq; exact ih h
 | _ => intro _; unfold dq; trivial
def Src.same : Src → Src → Bool
 | .tmp a, .tmp b => Nat.beq a b
 | .cell a, .cell b => Nat.beq a b
 | .ptr a, .ptr b => Nat.beq a b
 | _, _ => false
theorem Src.xp : {a b : Src} → a.same b = true → a = b
 | .tmp _, .tmp _, h => congrArg Src.tmp (Nat.eq_of_beq_eq_true h)
 | .cell _, .cell _, h => congrArg Src.cell (Nat.eq_of_beq_eq_true h)
 | .ptr _, .ptr _, h => congrArg Src.ptr (Nat.eq_of_beq_eq_true h)
 | .tmp _, .cell _, h => by cases h
 | .tmp _, .ptr _, h => by cases h
 | .cell _, .tmp _, h => by cases h
 | .cell _, .ptr _, h => by cases h
 | .ptr _, .tmp _, h => by cases h
 | .ptr _, .cell _, h => by cases h
def EV (T : jq) : List ResultVar → List RP → Bool
 | [], [] => true
 | .tmp t :: vs, r :: rs => (r.src.same (.tmp t) || r.src.same (.ptr t)) && EV T vs rs
 | .cell t ty :: vs, r :: rs => r.src.same (.cell t) && ((match T.cells ty with | some n => Nat.beq n r.ps.length | none => false) && ((T.agg ty == r.agg) && EV T vs rs))
 | _, _ => false
theorem uG {T : jq} (tm : Array Value) : (vs : List ResultVar) → (rs : List RP) → EV T vs rs = true → vF T tm vs rs
 | [], [], _ => trivial
 | [], _ :: _, h => by simp [EV] at h
 | v :: _, [], h => by cases v <;> simp [EV] at h
 | .tmp t :: vs, r :: rs, h => by
   unfold EV at h; rw [Bool.and_eq_true, Bool.or_eq_true] at h; exact ⟨h.1.imp Src.xp Src.xp, uG tm vs rs h.2⟩
 | .cell t ty :: vs, r :: rs, h => by
   unfold EV at h; rw [Bool.and_eq_true, Bool.and_eq_true, Bool.and_eq_true] at h; obtain ⟨h1, h2, h3, h4⟩ := h; refine ⟨⟨Src.xp h1, ?_, by simpa using h3⟩, uG tm vs rs h4⟩
   cases hc : T.cells ty with
   | none => rw [hc] at h2; cases h2
   | some n => rw [hc] at h2; rw [Nat.eq_of_beq_eq_true h2]
abbrev QF := List (Nat × (Pm × Pm × Pm × s7))
def vI : QF → il
 | [], _ => none
 | (g, s) :: l, f => bif Nat.beq f g then some s else vI l f
structure nN (P : Program) (f : FuncId) (yv : s7) : Prop where
 ok : FnOk P f yv
 fn : ∃ fn, P.funcs[f]? = some fn ∧ (fn.name == "runtime.NumGoroutine") = false ∧ fn.body.isNone = false
theorem K9 {P : Program} : km P (vI []) := fun f a b c yv h => by cases h
theorem Jg {P : Program} {g : Nat} {a b c : Pm} {yv : s7} {l : QF} (hk : nN P g yv) (hl : km P (vI l)) : km P (vI ((g, (a, b, c, yv)) :: l)) := by
 intro f a' b' c' YR h; unfold vI at h
 cases hb : Nat.beq f g with
 | true =>
   rw [hb] at h; injection h with h; injection h with _ h; injection h with _ h; injection h with _ h; subst h; rw [Nat.eq_of_beq_eq_true hb]; exact ⟨hk.ok, hk.fn⟩
 | false => rw [hb] at h; exact hl f a' b' c' YR h
def O0 (T : jq) (D : jb) (fn : Func) (code : Code) (n : Nat) (ps : List AP) (rs : List RP) : Bool :=
 Nat.beq fn.ntmps n && (Nat.ble ps.length n && (ez n code && (EV T fn.results.toList rs && gP D code)))
theorem NP {P : Program} {tr : Tr} (hT : tr.all (vj P) = true) (hE : uP P (jD tr)) (hm : P.follows .mixedOrders = true) {S : il} (hS : km P S) {D : jb} {f : FuncId} {fn : Func} {code : Code} {n : Nat} {ps : List AP} {rs : List RP}
   {L : kV (ak (bQ rs (ba ps)))} {t : ak (ar (ps.map some)) → Option (ak (bQ rs (ba ps)))}
   (hf : P.funcs[f]? = some fn) (hb : fn.body = some code) (mW : O0 (jD tr) D fn code n ps rs = true) (EW : (fn.name == "runtime.NumGoroutine") = false)
   (hL : ∀ (w0 : World) (mu : Mu) (y : ak (bQ rs (ba ps))), j5 ps mu → ∀ p ∈ cC code, kg P w0 mu n L y p.1 p.2)
   (Gt : ∀ x, dm (jD tr) S D L code (start n ps x) (xj rs ps) = t x) : nN P f (jR ps rs t) := by
 unfold O0 at mW; rw [Bool.and_eq_true, Bool.and_eq_true, Bool.and_eq_true, Bool.and_eq_true] at mW; obtain ⟨h1, h2, h3, h4, h5⟩ := mW; refine ⟨Uf (iN hT) hE hS hf hb (Nat.eq_of_beq_eq_true h1) (Nat.le_of_ble_eq_true h2) h3 (fun tm => uG tm _ _ h4) (fun w0 mu y hs => nW code (hL w0 mu y hs))
   (fun w0 mu => qN (iN hT) hE hm (nU (iN hT) hE hS w0 mu n)) (qb code h5) Gt, fn, hf, EW, by rw [hb]; rfl⟩
def CA (D : jb) (ps : List AP) (hp e0 e1 : List (Option AP)) (n : Nat) (b : Code) : Bool :=
 (fi ps hp && (fi ps e0 && fi ps e1)) && (ez n b && gP D b)
theorem Jh {R : Type} {P : Program} {tr : Tr} (hT : tr.all (vj P) = true) (hE : uP P (jD tr)) (hm : P.follows .mixedOrders = true) {S : il} (hS : km P S) {D : jb} {n id : Nat} {w0 : World} {mu : Mu} {ps : List AP} {hp e0 e1 : List (Option AP)} {b : Code} {r : R} {L : kV R}
   {L' : kV (Sum (ak (ar hp)) (Sum (ak (ar e0)) (ak (ar e1))))} {round : ak (ar hp) → Option (Sum (ak (ar hp)) (Sum (ak (ar e0)) (ak (ar e1))))}
   (hs : j5 ps mu) (mW : CA D ps hp e0 e1 n b = true)
   (z8 : ∀ z, ∀ p ∈ cC b, kg P w0 mu n L' z p.1 p.2) (Gu : ∀ x, dm (jD tr) S D L' b (lT hp x) (yc id hp e0 e1) = round x) (hL : ∀ st k, L id b st k = yd hp e0 e1 round st k) : kg P w0 mu n L r id b := by
 unfold CA at mW; rw [Bool.and_eq_true, Bool.and_eq_true (ez n b)] at mW; exact NL (nU (iN hT) hE hS w0 mu n) (qN (iN hT) hE hm (nU (iN hT) hE hS w0 mu n)) hs mW.1 mW.2.1 (qb b mW.2.2) (fun z => nW b (z8 z)) Gu hL
def cj {A B C : Type} (o : Option (Sum A B)) (f : A → Option C) (g : B → Option C) : Option C :=
 o.bind fun z => match z with
   | .inl y => f y
   | .inr y => g y
end Go.TM
namespace Go.TM
open Go Go.RowKit Go.ChangeShapes
def RT.app : RT → RT → RT
 | .nil, s => s
 | .cons t r, s => .cons t (r.app s)
def NQ : (r s : RT) → ak r → ak s → ak (r.app s)
 | .nil, _, _, y => y
 | .cons _ r, s, x, y => (x.1, NQ r s x.2 y)
mutual
def BN : (t : Ty) → den t → Prop
 | .int k, n => (Lit.int k n).wf = true
 | .bool, _ => True
 | .str, s => ByteArray.size s ≤ maxLen
 | .sl r, xs => (HP xs).length ≤ maxLen ∧ ∀ x ∈ HP xs, AK r x
def AK : (r : RT) → ak r → Prop
 | .nil, _ => True
 | .cons t r, x => BN t x.1 ∧ AK r x.2
end
theorem AL (x : ak .nil) : AK .nil x := AK.eq_1 x ▸ trivial
theorem lV {t : Ty} {r : RT} {x : ak (.cons t r)} : AK (.cons t r) x ↔ BN t x.1 ∧ AK r x.2 := AK.eq_2 t r x ▸ Iff.rfl
theorem Um {k : IntKind} {n : Int} : BN (.int k) n ↔ (Lit.int k n).wf = true := BN.eq_1 k n ▸ Iff.rfl
theorem QG {b : Bool} : BN .bool b := BN.eq_2 b ▸ trivial
theorem Un {s : ByteArray} : BN .str s ↔ ByteArray.size s ≤ maxLen := BN.eq_3 s ▸ Iff.rfl
theorem Uo {r : RT} {xs : List (ak r)} : BN (.sl r) xs ↔ (xs.length ≤ maxLen ∧ ∀ x ∈ xs, AK r x) := BN.eq_4 r xs ▸ Iff.rfl
theorem RT.yf : (r s : RT) → (r.app s).width = r.width + s.width
 | .nil, s => by simp [RT.app, RT.width]
 | .cons t r, s => by simp [RT.app, RT.width, RT.yf r s]; omega
theorem bZ.cat {w : World} {ok : Nat → Prop} : (r s : RT) → (l m : List Value) → (x : ak r) → (y : ak s) → bZ w ok r l x → bZ w ok s m y → bZ w ok (r.app s) (l ++ m) (NQ r s x y)
 | .nil, s, l, m, x, y, h, h' => by
   have : l = [] := h; subst this; exact h'
 | .cons t r, s, l, m, x, y, h, h' => by
   obtain ⟨v, l', rfl, h1, h2⟩ := h; exact ⟨v, l' ++ m, rfl, h1, bZ.cat r s l' m x.2 y h2 h'⟩
theorem AK.cat : (r s : RT) → (x : ak r) → (y : ak s) → AK r x → AK s y → AK (r.app s) (NQ r s x y)
 | .nil, _, _, _, _, h' => h'
 | .cons t r, s, x, y, h, h' => by
   exact lV.2 ⟨(lV.1 h).1, AK.cat r s x.2 y (lV.1 h).2 h'⟩
def AM (P : Program) (row : TypeId → Option RT) : Nat → List Field → Option RT
 | _, [] => some .nil
 | off, f :: fs => match row f.type with
   | some q => (match AM P row (off + q.width) fs with
     | some r => bif Nat.beq f.offset off && Nat.beq (P.cellsOf f.type) q.width then some (q.app r) else none
     | none => none)
   | none => none
def AN (P : Program) : Nat → TypeId → Option RT
 | 0, _ => none
 | n + 1, t => match P.underlying t with
   | some .bool => some (.cons .bool .nil)
   | some (.int k) => some (.cons (.int k) .nil)
   | some .string => some (.cons .str .nil)
   | some (.slice e) => (match AN P n e with
     | some q => bif Nat.beq (P.cellsOf e) q.width && Nat.blt 0 q.width then some (.cons (.sl q) .nil) else none
     | none => none)
   | some (.struct fs) => (match AM P (AN P n) 0 fs.toList with
     | some r => bif Nat.beq (P.cellsOf t) r.width then some r else none
     | none => none)
   | _ => none
theorem Ij {α : Type} {Pr : Nat → α → Prop} : (n : Nat) → (∀ i, i < n → ∃ x, Pr i x) → ∃ xs : List α, xs.length = n ∧ ∀ (i : Nat) x, xs[i]? = some x → Pr i x
 | 0, _ => ⟨[], rfl, fun i x h => by simp at h⟩
 | n + 1, h => by
   obtain ⟨xs, h1, h2⟩ := Ij n (fun i hi => h i (by omega)); obtain ⟨x, hx⟩ := h n (by omega); refine ⟨xs ++ [x], by simp [h1], fun i y hy => ?_⟩
   by_cases hi : i < n
   · rw [List.getElem?_append_left (by omega)] at hy; exact h2 i y hy
   · rw [List.getElem?_append_right (by omega)] at hy; have z8 : i = n := by
       have := (List.getElem?_eq_some_iff.1 hy).1; simp at this; omega
     subst z8; rw [h1, Nat.sub_self] at hy; simp at hy; rw [← hy]; exact hx
theorem CB {w : World} {a : Addr} {v : Value} (h : w.cell? a = some v) : a.spot = none := by
 unfold World.cell? at h
 split at h
 · split at h
   · cases h
   · rename_i hs; simpa using hs
 · cases h
theorem EX {α β : Type} {f : α → Option β} : (l : List α) → {m : List β} → l.mapM f = some m → m.length = l.length ∧ ∀ (i : Nat) a, l[i]? = some a → f a = m[i]?
 | [], m, h => by
   simp at h; subst h; exact ⟨rfl, fun i a ha => by simp at ha⟩
 | a :: l, m, h => by
   rw [List.mapM_cons] at h
   cases ha : f a with
   | none => simp [ha] at h
   | some b =>
     cases hl : l.mapM f with
     | none => simp [ha, hl] at h
     | some m' =>
       simp [ha, hl] at h; subst h; obtain ⟨h1, h2⟩ := EX l hl; refine ⟨by simp [h1], fun i x hx => ?_⟩
       cases i with
       | zero => simp at hx; subst hx; simpa using ha
       | succ i => simpa using h2 i x (by simpa using hx)
theorem yT {w : World} {base n : Nat} {a : Addr} {vs : List Value} (h : w.cells? base a n = some vs) : vs.length = n ∧ w.rangeAt a.block a.off vs ∧ (0 < n → a.spot = none) := by
 unfold World.cells? at h
 split at h
 · obtain ⟨h1, h2⟩ := EX _ h; simp at h1; have each : ∀ j v, vs[j]? = some v → w.cell? (a.add j) = some v := by
     intro j v hv; have hj : j < n := by
       have := (List.getElem?_eq_some_iff.1 hv).1; omega
     rw [h2 j j (by simp [hj]), hv]
   refine ⟨h1, fun j v hv => ?_, fun hn => ?_⟩
   · have := each j v hv; have hs := CB this; have e : a.add j = ⟨a.block, a.off + j, none⟩ := by
       unfold Addr.add at hs ⊢
       split
       · rename_i h0; subst h0; rw [if_pos rfl] at hs; obtain ⟨b, o, s⟩ := a; simp at hs; subst hs; rfl
       · rfl
     rw [← e]; exact this
   · have bP : 0 < vs.length := by omega
     have := each 0 vs[0] (by simp [bP]); have hs := CB this; simpa [Addr.add] using hs
 · cases h
theorem CC {P : Program} {w : World} {cs : List Value} {row : TypeId → Option RT} : (fs : List Field) → (off : Nat) → (r : RT) → AM P row off fs = some r →
   (∀ f ∈ fs, ∀ q, row f.type = some q → ∃ x : ak q, bZ w (fun _ => True) q ((cs.drop f.offset).take (P.cellsOf f.type)) x ∧ AK q x) → off + r.width ≤ cs.length →
   ∃ x : ak r, bZ w (fun _ => True) r ((cs.drop off).take r.width) x ∧ AK r x
 | [], off, r, h, _, _ => by
   simp only [AM, Option.some.injEq] at h; subst h; exact ⟨(), by simp [RT.width, bZ], AL _⟩
 | f :: fs, off, r, h, hf, hl => by
   unfold AM at h
   cases hq : row f.type with
   | none => simp [hq] at h
   | some q =>
     simp only [hq] at h
     cases hr : AM P row (off + q.width) fs with
     | none => simp [hr] at h
     | some r' =>
       simp only [hr] at h; obtain ⟨h1, h2⟩ := aD h; injection h2 with h2; subst h2; rw [Bool.and_eq_true] at h1; have ho := Nat.eq_of_beq_eq_true h1.1; have hc := Nat.eq_of_beq_eq_true h1.2; rw [RT.yf] at hl; obtain ⟨x, Ga, BH⟩ := hf f List.mem_cons_self q hq; obtain ⟨y, YS, hy2⟩ := CC fs (off + q.width) r' hr (fun g hg => hf g (List.mem_cons_of_mem _ hg)) (by omega); refine ⟨NQ q r' x y, ?_, AK.cat q r' x y BH hy2⟩; rw [RT.yf, List.take_add, List.drop_drop]; rw [ho, hc] at Ga; exact bZ.cat q r' _ _ x y Ga YS
theorem Dm {H : Type} {enc : TypeId × Value → H} {P : Program} {w : World} {base : Nat} {spare : Nat → Bool} {held : Bool} : (n : Nat) → ∀ {t : TypeId} {r : RT} {fuel : Nat} {cs : List Value} {y : DataW H × List MemPlace}, AN P n t = some r →
   DataW.trod enc P w base spare held fuel t cs = some y → ∃ x : ak r, bZ w (fun _ => True) r cs x ∧ AK r x
 | 0, _, _, _, _, _, h, _ => by cases h
 | n + 1, t, r, fuel, cs, y, h, hd => by
   unfold AN at h
   cases hu : P.underlying t with
   | none => simp [hu] at h
   | some d =>
     cases d with
     | bool =>
       simp only [hu, Option.some.injEq] at h; subst h; obtain ⟨b, rfl, _⟩ := DataW.trod_bool hu hd; exact ⟨((b : Bool), ()), ⟨_, _, rfl, pY.2 rfl, rfl⟩, lV.2 ⟨QG, AL _⟩⟩
     | int k =>
       simp only [hu, Option.some.injEq] at h; subst h; obtain ⟨m, rfl, _, hw⟩ := DataW.trod_int hu hd; exact ⟨((m : Int), ()), ⟨_, _, rfl, oK.2 rfl, rfl⟩, lV.2 ⟨Um.2 hw, AL _⟩⟩
     | string =>
       simp only [hu, Option.some.injEq] at h; subst h; obtain ⟨s, rfl, _, hw⟩ := DataW.trod_string hu hd; exact ⟨((s : ByteArray), ()), ⟨_, _, rfl, td.2 rfl, rfl⟩, lV.2 ⟨Un.2 hw, AL _⟩⟩
     | slice e =>
       simp only [hu] at h
       cases hq : AN P n e with
       | none => simp [hq] at h
       | some q =>
         simp only [hq] at h; obtain ⟨h1, h2⟩ := aD h; injection h2 with h2; subst h2; rw [Bool.and_eq_true] at h1; have hw := Nat.eq_of_beq_eq_true h1.1; have KO : 0 < q.width := Nat.le_of_ble_eq_true h1.2; rcases DataW.trod_slice hu hd with ⟨rfl, _⟩ | ⟨a, len, cap, elems, rest, m, _, rfl, _, hb, hl, hm, hlen, Xs, _, _⟩
         · exact ⟨(([] : List (ak q)), ()), ⟨_, _, rfl, (lG _ _ _ _ _).2 (.inl ⟨rfl, rfl⟩), rfl⟩, lV.2 ⟨Uo.2 ⟨Nat.zero_le _, fun x hx => by cases hx⟩, AL _⟩⟩
         · have each : ∀ i, i < len → ∃ x : ak q, (bU w (fun _ => True) q a.block (a.off + i * q.width) x ∧ AK q x) ∧ a.spot = none ∧ a.block < w.heap.size := by
             intro i hi; have h3 := Xs i hi; rw [List.getElem?_eq_getElem (by omega), Option.bind_eq_some_iff] at h3; obtain ⟨vs, wS, hy⟩ := h3; obtain ⟨x, hx, hs⟩ := Dm n hq hy; obtain ⟨g1, g2, g3⟩ := yT wS; have SB : (a.add (i * P.cellsOf e)).block = a.block := by unfold Addr.add; split <;> rfl
             have hof : (a.add (i * P.cellsOf e)).off = a.off + i * q.width := by
               unfold Addr.add; rw [hw]
               split
               · rename_i h0; rw [h0]; rfl
               · rfl
             rw [SB, hof] at g2; refine ⟨x, ⟨(kW q _ _ x).2 ⟨vs, g2, hx⟩, hs⟩, ?_, ?_⟩
             · have h4 := Xs 0 (by omega); rw [List.getElem?_eq_getElem (by omega), Option.bind_eq_some_iff] at h4; obtain ⟨vs0, YT, _⟩ := h4; have := (yT YT).2.2 (by omega); simpa [Addr.add] using this
             · have bP : 0 < vs.length := by omega
               have h5 := HQ (g2 0 vs[0] (by simp [bP])); exact h5
           obtain ⟨xs, Ga, BH⟩ := Ij len each; refine ⟨((xs : List (ak q)), ()), ⟨_, _, rfl, (lG _ _ _ _ _).2 (.inr ⟨a, cap, by rw [Ga], by rw [Ga]; exact hl, fun fp => ?_, fun i x hi => (BH i x hi).1.1⟩), rfl⟩, ?_⟩
           · have bP : 0 < xs.length := List.length_pos_iff.2 fp; have := (BH 0 xs[0] (by simp [bP])).2; exact ⟨this.1, this.2, trivial⟩
           · refine lV.2 ⟨Uo.2 ⟨by show xs.length ≤ maxLen; omega, fun x hx => ?_⟩, AL _⟩; obtain ⟨i, hi⟩ := List.getElem?_of_mem hx; exact (BH i x hi).1.2
     | struct fs =>
       simp only [hu] at h
       cases hq : AM P (AN P n) 0 fs.toList with
       | none => simp [hq] at h
       | some q =>
         simp only [hq] at h; obtain ⟨h1, h2⟩ := aD h; injection h2 with h2; subst h2; have hw := Nat.eq_of_beq_eq_true h1; obtain ⟨xs, m, _, _, hlen, OS, Xs⟩ := DataW.trod_struct hu hd; obtain ⟨x, g1, g2⟩ := CC (w := w) (cs := cs) fs.toList 0 q hq (fun f hf p hp => by
           obtain ⟨i, hi⟩ := List.getElem?_of_mem hf; rw [Array.getElem?_toList] at hi; have h3 := Xs i f hi; have bP : i < fs.size := (Array.getElem?_eq_some_iff.1 hi).1; rw [List.getElem?_eq_getElem (by omega)] at h3; exact Dm n hp h3) (by omega)
         refine ⟨x, ?_, g2⟩; have : (cs.drop 0).take q.width = cs := by rw [List.drop_zero, List.take_of_length_le (by omega)]
         rwa [this] at g1
     | _ => simp [hu] at h
end Go.TM
