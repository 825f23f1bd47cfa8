/- A machine over trees: an evaluator of the code, and that what it finds is so; part 3. -/
import Derived.Test.YtoblacbibdgddaaTm2
import Derived.Laws.StructEq
import Derived.ChangeKeysEq
set_option linter.unusedSimpArgs false
set_option linter.unusedVariables false
/- The tree machine, part 45: structs of numbers, bools and strings, compared. -/
namespace Go.TM
open Go Go.RowKit

def fieldsEqB (P : Program) : Nat → RT → List Field → Bool
  | _, .nil, [] => true
  | off, .cons t r, f :: fs => Nat.beq f.offset off && ((f.name != "_") && (P.plainKey f.type && (kindB P f.type t && fieldsEqB P (off + 1) r fs)))
  | _, _, _ => false

def structEqB (P : Program) (t : TypeId) (r : RT) : Bool :=
  match P.underlying t with
  | some (.struct fs) => !P.stoodInHeld t && (!P.eqGuardType P.depth t && fieldsEqB P 0 r fs.toList)
  | _ => false

def recEq (P : Program) (t : Nat) (r : Rec) : Bool := !r.eq || (match r.row with | some q => structEqB P t q | none => false)

theorem cell_equal {P : Program} {c : Cz} {st : St} {w w' : World} {t : TypeId} {ty : Ty} {d : Nat} {a b : CV} {x y : Value} {r : Bool} {q : RT} {l : List CV} (hk : kindB P t ty = true) (hf : fitsR (.cons ty q) (a :: l) = true) (h : cellEq a b = some r) (hx : RelC c st w a x) (hy : RelC c st w b y) :
    (Op.equalIn (d + 1) t x y).run P w' = .ok r w' ∧ fitsR q l = true := by
  cases ty with
  | sl _ => cases a <;> simp [fitsR] at hf
  | int k =>
    obtain ⟨e, he, h2⟩ := optIs_ok hk
    cases a <;> try (simp [fitsR] at hf; done)
    rename_i k1 n
    simp only [fitsR, Bool.and_eq_true, decide_eq_true_eq] at hf
    cases b <;> try (simp [cellEq] at h; done)
    rename_i k2 m
    simp only [cellEq] at h
    split at h
    · rename_i hkk
      subst hkk
      cases h
      cases e <;> simp at h2
      have hx : x = .int k1 n := hx
      have hy : y = .int k1 m := hy
      subst hx hy
      refine ⟨?_, hf.2⟩
      rw [run_equalIn_int w' d t k1 _ n m he]
      congr 1
    · cases h
  | bool =>
    obtain ⟨e, he, h2⟩ := optIs_ok hk
    cases a <;> try (simp [fitsR] at hf; done)
    cases b <;> try (simp [cellEq] at h; done)
    rename_i p q'
    simp only [cellEq, Option.some.injEq] at h
    subst h
    cases e <;> simp at h2
    have hx : x = .bool p := hx
    have hy : y = .bool q' := hy
    subst hx hy
    exact ⟨run_equalIn_bool' w' d t p q' he, hf⟩
  | str =>
    obtain ⟨e, he, h2⟩ := optIs_ok hk
    cases a <;> try (simp [fitsR] at hf; done)
    cases b <;> try (simp [cellEq] at h; done)
    rename_i p q'
    simp only [cellEq, Option.some.injEq] at h
    subst h
    cases e <;> simp at h2
    have hx : x = .string p := hx
    have hy : y = .string q' := hy
    subst hx hy
    exact ⟨run_equalIn_string w' d t p q' he, hf⟩

theorem fields_equal {P : Program} {c : Cz} {st : St} {w w' : World} {d : Nat} {us vs : Array Value} : (fs : List Field) → (off : Nat) → (q : RT) → (l m : List CV) → {b : Bool} → fieldsEqB P off q fs = true → fitsR q l = true → cellsEq l m = some b →
    RelL c st w l (us.toList.drop off) → RelL c st w m (vs.toList.drop off) → (Op.eqFields (d + 1) us vs fs).run P w' = .ok b w'
  | [], off, q, l, m, b, hf, hfit, hc, hl, hm => by
    cases q with
    | cons t r => cases t <;> simp [fieldsEqB] at hf
    | nil =>
      cases l with
      | cons _ _ => simp [fitsR] at hfit
      | nil => cases m with
        | cons _ _ => simp [cellsEq] at hc
        | nil =>
          simp only [cellsEq, Option.some.injEq] at hc
          subst hc
          simp [Op.eqFields]
  | f :: fs, off, q, l, m, b, hf, hfit, hc, hl, hm => by
    cases q with
    | nil => simp [fieldsEqB] at hf
    | cons t r =>
      unfold fieldsEqB at hf
      rw [Bool.and_eq_true, Bool.and_eq_true, Bool.and_eq_true, Bool.and_eq_true] at hf
      obtain ⟨h1, h2, h3, h4, h5⟩ := hf
      have h1 := Nat.eq_of_beq_eq_true h1
      cases l with
      | nil => cases t <;> simp [fitsR] at hfit
      | cons x l => cases m with
        | nil => simp [cellsEq] at hc
        | cons y m =>
          simp only [cellsEq] at hc
          cases he : cellEq x y with
          | none => simp [he] at hc
          | some b1 =>
            cases hes : cellsEq l m with
            | none => simp [he, hes] at hc
            | some b2 =>
              simp only [he, hes, Option.some.injEq] at hc
              subst hc
              have hul : off < us.size := by
                have := hl.1
                simp at this
                omega
              have hvl : off < vs.size := by
                have := hm.1
                simp at this
                omega
              have hdu : us.toList.drop off = us[off] :: us.toList.drop (off + 1) := by
                have : off < us.toList.length := by simpa using hul
                rw [List.drop_eq_getElem_cons this]
                simp
              have hdv : vs.toList.drop off = vs[off] :: vs.toList.drop (off + 1) := by
                have : off < vs.toList.length := by simpa using hvl
                rw [List.drop_eq_getElem_cons this]
                simp
              rw [hdu] at hl
              rw [hdv] at hm
              have rx := hl.2 0 x us[off] rfl rfl
              have ry := hm.2 0 y vs[off] rfl rfl
              obtain ⟨k1, k2⟩ := cell_equal (w' := w') (d := d) h4 hfit he rx ry
              have rl : RelL c st w l (us.toList.drop (off + 1)) := ⟨by have := hl.1; simpa using this, fun i a v ha hv => hl.2 (i + 1) a v (by simpa using ha) (by simpa using hv)⟩
              have rm : RelL c st w m (vs.toList.drop (off + 1)) := ⟨by have := hm.1; simpa using this, fun i a v ha hv => hm.2 (i + 1) a v (by simpa using ha) (by simpa using hv)⟩
              have ih := fields_equal (w' := w') (d := d) fs (off + 1) r l m h5 k2 hes rl rm
              unfold Op.eqFields
              rw [if_pos (by simpa using h2)]
              have p1 : (part f.type us f.offset).run P w' = .ok us[off] w' := run_part_plain w' h3 (by rw [h1]; exact Array.getElem?_eq_getElem hul)
              have p2 : (part f.type vs f.offset).run P w' = .ok vs[off] w' := run_part_plain w' h3 (by rw [h1]; exact Array.getElem?_eq_getElem hvl)
              simp only [Sem.run_bind, p1, p2, k1, Result.andThen_ok]
              cases b1
              · simp
              · simp [ih]

theorem eqs_ok {P : Program} {tr : Tr} (h : tr.all (recEq P) = true) : EqOk P (tabOf tr) := by
  intro t ht c st w l m us vs b op ox oy hfit hc hl hm w'
  have ht : (match tr.find t with | some r => r.eq | none => false) = true := ht
  cases hf : tr.find t with
  | none => rw [hf] at ht; cases ht
  | some r =>
    rw [hf] at ht
    have ht : r.eq = true := ht
    have h1 := Tr.all_find tr h hf
    unfold recEq at h1
    rw [ht, Bool.not_true, Bool.false_or] at h1
    unfold Tab.fits at hfit
    have hrow : (tabOf tr).row t = r.row := by show (match tr.find t with | some r => r.row | none => none) = _; rw [hf]
    rw [hrow] at hfit
    cases hq : r.row with
    | none => rw [hq] at h1; cases h1
    | some q =>
      rw [hq] at h1 hfit
      have h1 : structEqB P t q = true := h1
      have hfit : fitsR q l = true := hfit
      unfold structEqB at h1
      split at h1
      · rename_i fs hu
        rw [Bool.and_eq_true, Bool.and_eq_true, Bool.not_eq_true', Bool.not_eq_true'] at h1
        have hfo : P.fieldsOf t = fs := by unfold Program.fieldsOf; rw [hu]
        refine ⟨run_eqGuard_agg w' op t ox oy us vs h1.2.1, ?_⟩
        show (Op.equalIn (9999 + 1) t (.agg us) (.agg vs)).run P w' = .ok b w'
        rw [run_equalIn_struct w' 9999 t us vs (by rw [hfo]; exact hu) h1.1, hfo]
        exact fields_equal (d := 9998) fs.toList 0 q l m h1.2.2 hfit hc (by simpa using hl) (by simpa using hm)
      · cases h1

end Go.TM
