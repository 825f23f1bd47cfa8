/- A machine over trees: an evaluator of the code, and that what it finds is so; part 3. -/
import Derived.Test.YtoblacbibdgddaaTm2
import Derived.Laws.StructEq
import Derived.ChangeKeysEq
set_option linter.unusedSimpArgs false
set_option linter.unusedVariables false
/- The tree machine, part 44: plain helps for loops and numbers. -/
namespace Go.TM
open Go

theorem wrap_id {a : Int} (h1 : -9223372036854775808 ≤ a) (h2 : a < 9223372036854775808) : IntKind.i64.wrap a = a := by
  rw [IntKind.wrap_i64]
  omega

theorem wrap_u8 {a : Int} (h1 : 0 ≤ a) (h2 : a < 256) : IntKind.u8.wrap a = a := by
  unfold IntKind.wrap
  simp [IntKind.bits, IntKind.signed]
  omega

theorem wf_i64 {n : Int} (h : (Lit.int .i64 n).wf = true) : -9223372036854775808 ≤ n ∧ n < 9223372036854775808 := by
  simp only [Lit.wf, Bool.and_eq_true, decide_eq_true_eq] at h
  have h1 : IntKind.i64.min = -9223372036854775808 := rfl
  have h2 : IntKind.i64.max = 9223372036854775807 := rfl
  omega

/-- A loop that counts up: 'st k' is its state in round k, 'g k' what it comes to from there. -/
theorem loop_ind {X E : Type} {round : X → Option (Sum X E)} {n : Nat} (st : Nat → X) (g : Nat → Option E) (hend : ∃ e, round (st n) = some (.inr e) ∧ g n = some e)
    (hstep : ∀ k, k < n → (∃ e, round (st k) = some (.inr e) ∧ g k = some e) ∨ (round (st k) = some (.inl (st (k + 1))) ∧ g k = g (k + 1))) : ∀ k, k ≤ n → loopV round (st k) = g k := by
  have key : ∀ d k, k + d = n → loopV round (st k) = g k := by
    intro d
    induction d with
    | zero =>
      intro k hk
      have : k = n := by omega
      subst this
      obtain ⟨e, h1, h2⟩ := hend
      rw [loopV_eq, h1, h2]
    | succ d ih =>
      intro k hk
      rcases hstep k (by omega) with ⟨e, h1, h2⟩ | ⟨h1, h2⟩
      · rw [loopV_eq, h1, h2]
      · rw [loopV_eq, h1, h2]
        exact ih (k + 1) (by omega)
  intro k hk
  exact key (n - k) k (by omega)

/-- A loop that runs to its end. -/
theorem loop_run {X E : Type} {round : X → Option (Sum X E)} (n : Nat) (st : Nat → X) {e : E} (hend : round (st n) = some (.inr e))
    (hstep : ∀ k, k < n → round (st k) = some (.inl (st (k + 1)))) : loopV round (st 0) = some e :=
  loop_ind st (fun _ => some e) ⟨e, hend, rfl⟩ (fun k hk => .inr ⟨hstep k hk, rfl⟩) 0 (Nat.zero_le _)

/-- A loop with an invariant of its state and the number of its round. -/
theorem loop_inv {X E : Type} {round : X → Option (Sum X E)} (n : Nat) (I : Nat → X → Prop) (Q : E → Prop) (hend : ∀ x, I n x → ∃ e, round x = some (.inr e) ∧ Q e)
    (hstep : ∀ k x, k < n → I k x → (∃ e, round x = some (.inr e) ∧ Q e) ∨ (∃ y, round x = some (.inl y) ∧ I (k + 1) y)) {x : X} (h : I 0 x) : ∃ e, loopV round x = some e ∧ Q e := by
  have key : ∀ d k x, k + d = n → I k x → ∃ e, loopV round x = some e ∧ Q e := by
    intro d
    induction d with
    | zero =>
      intro k x hk hI
      have : k = n := by omega
      subst this
      obtain ⟨e, h1, h2⟩ := hend x hI
      exact ⟨e, by rw [loopV_eq, h1], h2⟩
    | succ d ih =>
      intro k x hk hI
      rcases hstep k x (by omega) hI with ⟨e, h1, h2⟩ | ⟨y, h1, h2⟩
      · exact ⟨e, by rw [loopV_eq, h1], h2⟩
      · obtain ⟨e, h3, h4⟩ := ih (k + 1) y (by omega) h2
        exact ⟨e, by rw [loopV_eq, h1]; exact h3, h4⟩
  exact key n 0 x (by omega) h

theorem outK_inl {A B C : Type} {a : A} {f : A → Option C} {g : B → Option C} : outK (some (.inl a)) f g = f a := rfl
theorem outK_inr {A B C : Type} {b : B} {f : A → Option C} {g : B → Option C} : outK (some (.inr b)) f g = g b := rfl

theorem dec_true {p : Prop} [Decidable p] (h : p) : decide p = true := decide_eq_true h
theorem dec_false {p : Prop} [Decidable p] (h : ¬ p) : decide p = false := decide_eq_false h

theorem toNat_nat (k : Nat) : Int.toNat ((k : Nat) : Int) = k := rfl
theorem blt_true {a b : Nat} (h : a < b) : Nat.blt a b = true := Nat.ble_eq_true_of_le h
theorem ble_true {a b : Nat} (h : a ≤ b) : Nat.ble a b = true := Nat.ble_eq_true_of_le h
theorem zero_le_nat (k : Nat) : decide ((0 : Int) ≤ ((k : Nat) : Int)) = true := dec_true (by omega)
theorem lt_nat_true {k n : Nat} (h : k < n) : decide (((k : Nat) : Int) < ((n : Nat) : Int)) = true := dec_true (by omega)
theorem lt_nat_irr (n : Nat) : decide (((n : Nat) : Int) < ((n : Nat) : Int)) = false := dec_false (by omega)
theorem succ_wrap {k : Nat} (h : k < 4611686018427387904) : IntKind.i64.wrap (((k : Nat) : Int) + (1 : Int)) = (((k + 1 : Nat)) : Int) := by
  rw [wrap_id] <;> omega

theorem bytes_loop (bs : ByteArray) : ∀ (d i : Nat) (r : List UInt8), bs.size - i = d → ByteArray.toList.loop bs i r = r.reverse ++ bs.data.toList.drop i
  | 0, i, r, h => by
    unfold ByteArray.toList.loop
    rw [if_neg (by omega)]
    have : bs.data.toList.drop i = [] := List.drop_of_length_le (by
      have : bs.data.toList.length = bs.size := Array.length_toList
      omega)
    rw [this, List.append_nil]
  | d + 1, i, r, h => by
    unfold ByteArray.toList.loop
    have hlt : i < bs.size := by omega
    rw [if_pos hlt, bytes_loop bs d (i + 1) _ (by omega)]
    have hlt2 : i < bs.data.toList.length := by
      have : bs.data.toList.length = bs.size := Array.length_toList
      omega
    rw [List.reverse_cons, List.append_assoc, List.drop_eq_getElem_cons hlt2]
    congr 2
    simp [ByteArray.get!, hlt]

theorem bytes_list (bs : ByteArray) : bs.toList = bs.data.toList := by
  unfold ByteArray.toList
  rw [bytes_loop bs _ 0 [] rfl]
  simp

theorem strEq_iff {a b : ByteArray} : strEq a b = true ↔ a = b := by
  unfold strEq
  rw [beq_iff_eq]
  constructor
  · intro h
    rw [bytes_list, bytes_list] at h
    obtain ⟨⟨x⟩⟩ := a
    obtain ⟨⟨y⟩⟩ := b
    exact congrArg (fun l => ByteArray.mk ⟨l⟩) h
  · intro h; rw [h]
theorem strEq_self (a : ByteArray) : strEq a a = true := strEq_iff.2 rfl

theorem copy_set {α : Type} (a : List α) (z : α) {k : Nat} (hk : k < a.length) : List.set (a.take k ++ List.replicate (a.length - k) z) k a[k] = a.take (k + 1) ++ List.replicate (a.length - (k + 1)) z := by
  have h1 : (a.take k).length = k := by simp; omega
  have h2 : a.length - k = (a.length - (k + 1)) + 1 := by omega
  rw [List.set_append, if_neg (by omega), h1, Nat.sub_self, h2, List.replicate_succ, List.set_cons_zero, List.take_succ_eq_append_getElem hk, List.append_assoc]
  rfl

/-- The sum of a measure over a list. -/
def wl {α : Type} (f : α → Nat) (xs : List α) : Nat := xs.foldr (fun x n => f x + n) 0
theorem wl_nil {α : Type} (f : α → Nat) : wl f [] = 0 := rfl
theorem wl_cons {α : Type} (f : α → Nat) (x : α) (xs : List α) : wl f (x :: xs) = f x + wl f xs := rfl
theorem wl_app {α : Type} (f : α → Nat) (xs ys : List α) : wl f (xs ++ ys) = wl f xs + wl f ys := by
  induction xs with
  | nil => simp [wl]
  | cons x xs ih =>
    show f x + wl f (xs ++ ys) = f x + wl f xs + wl f ys
    rw [ih]; omega
theorem wl_take {α : Type} (f : α → Nat) (xs : List α) {k : Nat} (hk : k < xs.length) : wl f (xs.take (k + 1)) = wl f (xs.take k) + f xs[k] := by
  rw [List.take_succ_eq_append_getElem hk, wl_app]
  rfl
theorem wl_mem {α : Type} (f : α → Nat) (xs : List α) : ∀ x ∈ xs, f x ≤ wl f xs := by
  induction xs with
  | nil => intro x h; cases h
  | cons y xs ih =>
    intro x h
    show f x ≤ f y + wl f xs
    rcases List.mem_cons.1 h with rfl | h
    · omega
    · have := ih x h; omega
theorem wl_zero {α : Type} (f : α → Nat) (h : ∀ x, f x = 0) (xs : List α) : wl f xs = 0 := by
  induction xs with
  | nil => rfl
  | cons y xs ih => show f y + wl f xs = 0; rw [h, ih]

theorem sz_len {r : RT} {xs : List (denR r)} (h : SzTy (.sl r) xs) : xs.length ≤ 9223372036854775807 := (szSl.1 h).1
theorem sz_el {r : RT} {xs : List (denR r)} (h : SzTy (.sl r) xs) : ∀ x ∈ xs, SzR r x := (szSl.1 h).2
theorem sz_str {s : ByteArray} (h : SzTy .str s) : ByteArray.size s ≤ 9223372036854775807 := szStr.1 h
theorem sz_int {n : Int} (h : SzTy (.int .i64) n) : -9223372036854775808 ≤ n ∧ n < 9223372036854775808 := wf_i64 (szInt.1 h)

/-- A size that is counted down: what is left, or -1. -/
def Left (o : Option (Int × Unit)) (wt : Nat) (left : Int) : Prop := ∃ m, o = some (m, ()) ∧ -1 ≤ m ∧ (0 ≤ m → (wt : Int) + m ≤ left)

/-- Two loops side by side. -/
theorem loop_two {X Y E F : Type} {r1 : X → Option (Sum X E)} {r2 : Y → Option (Sum Y F)} (n : Nat) (R : Nat → X → Y → Prop) (Q : E → F → Prop)
    (hstep : ∀ k x y, k ≤ n → R k x y → (∃ e f, r1 x = some (.inr e) ∧ r2 y = some (.inr f) ∧ Q e f) ∨ (k < n ∧ ∃ x' y', r1 x = some (.inl x') ∧ r2 y = some (.inl y') ∧ R (k + 1) x' y')) {x : X} {y : Y} (h : R 0 x y) :
    ∃ e f, loopV r1 x = some e ∧ loopV r2 y = some f ∧ Q e f := by
  have key : ∀ d k x y, k + d = n → R k x y → ∃ e f, loopV r1 x = some e ∧ loopV r2 y = some f ∧ Q e f := by
    intro d
    induction d with
    | zero =>
      intro k x y hk hR
      rcases hstep k x y (by omega) hR with ⟨e, f, h1, h2, h3⟩ | ⟨hlt, _⟩
      · exact ⟨e, f, by rw [loopV_eq, h1], by rw [loopV_eq, h2], h3⟩
      · omega
    | succ d ih =>
      intro k x y hk hR
      rcases hstep k x y (by omega) hR with ⟨e, f, h1, h2, h3⟩ | ⟨_, x', y', h1, h2, h3⟩
      · exact ⟨e, f, by rw [loopV_eq, h1], by rw [loopV_eq, h2], h3⟩
      · obtain ⟨e, f, g1, g2, g3⟩ := ih (k + 1) x' y' (by omega) h3
        exact ⟨e, f, by rw [loopV_eq, h1]; exact g1, by rw [loopV_eq, h2]; exact g2, g3⟩
  exact key n 0 x y (by omega) h

end Go.TM

/- The tree machine, part 45: structs of numbers, bools and strings, compared. -/
namespace Go.TM
open Go Go.RowKit

def fieldsEqB (P : Program) : Nat → RT → List Field → Bool
  | _, .nil, [] => true
  | off, .cons t r, f :: fs => Nat.beq f.offset off && ((f.name != "_") && (P.plainKey f.type && (kindB P f.type t && fieldsEqB P (off + 1) r fs)))
  | _, _, _ => false

def structEqB (P : Program) (t : TypeId) (r : RT) : Bool :=
  match P.underlying t with
  | some (.struct fs) => !P.stoodInHeld t && (!P.eqGuardType P.depth t && fieldsEqB P 0 r fs.toList)
  | _ => false

def recEq (P : Program) (t : Nat) (r : Rec) : Bool := !r.eq || (match r.row with | some q => structEqB P t q | none => false)

theorem cell_equal {P : Program} {c : Cz} {st : St} {w w' : World} {t : TypeId} {ty : Ty} {d : Nat} {a b : CV} {x y : Value} {r : Bool} {q : RT} {l : List CV} (hk : kindB P t ty = true) (hf : fitsR (.cons ty q) (a :: l) = true) (h : cellEq a b = some r) (hx : RelC c st w a x) (hy : RelC c st w b y) :
    (Op.equalIn (d + 1) t x y).run P w' = .ok r w' ∧ fitsR q l = true := by
  cases ty with
  | sl _ => cases a <;> simp [fitsR] at hf
  | int k =>
    obtain ⟨e, he, h2⟩ := optIs_ok hk
    cases a <;> try (simp [fitsR] at hf; done)
    rename_i k1 n
    simp only [fitsR, Bool.and_eq_true, decide_eq_true_eq] at hf
    cases b <;> try (simp [cellEq] at h; done)
    rename_i k2 m
    simp only [cellEq] at h
    split at h
    · rename_i hkk
      subst hkk
      cases h
      cases e <;> simp at h2
      have hx : x = .int k1 n := hx
      have hy : y = .int k1 m := hy
      subst hx hy
      refine ⟨?_, hf.2⟩
      rw [run_equalIn_int w' d t k1 _ n m he]
      congr 1
    · cases h
  | bool =>
    obtain ⟨e, he, h2⟩ := optIs_ok hk
    cases a <;> try (simp [fitsR] at hf; done)
    cases b <;> try (simp [cellEq] at h; done)
    rename_i p q'
    simp only [cellEq, Option.some.injEq] at h
    subst h
    cases e <;> simp at h2
    have hx : x = .bool p := hx
    have hy : y = .bool q' := hy
    subst hx hy
    exact ⟨run_equalIn_bool' w' d t p q' he, hf⟩
  | str =>
    obtain ⟨e, he, h2⟩ := optIs_ok hk
    cases a <;> try (simp [fitsR] at hf; done)
    cases b <;> try (simp [cellEq] at h; done)
    rename_i p q'
    simp only [cellEq, Option.some.injEq] at h
    subst h
    cases e <;> simp at h2
    have hx : x = .string p := hx
    have hy : y = .string q' := hy
    subst hx hy
    exact ⟨run_equalIn_string w' d t p q' he, hf⟩

theorem fields_equal {P : Program} {c : Cz} {st : St} {w w' : World} {d : Nat} {us vs : Array Value} : (fs : List Field) → (off : Nat) → (q : RT) → (l m : List CV) → {b : Bool} → fieldsEqB P off q fs = true → fitsR q l = true → cellsEq l m = some b →
    RelL c st w l (us.toList.drop off) → RelL c st w m (vs.toList.drop off) → (Op.eqFields (d + 1) us vs fs).run P w' = .ok b w'
  | [], off, q, l, m, b, hf, hfit, hc, hl, hm => by
    cases q with
    | cons t r => cases t <;> simp [fieldsEqB] at hf
    | nil =>
      cases l with
      | cons _ _ => simp [fitsR] at hfit
      | nil => cases m with
        | cons _ _ => simp [cellsEq] at hc
        | nil =>
          simp only [cellsEq, Option.some.injEq] at hc
          subst hc
          simp [Op.eqFields]
  | f :: fs, off, q, l, m, b, hf, hfit, hc, hl, hm => by
    cases q with
    | nil => simp [fieldsEqB] at hf
    | cons t r =>
      unfold fieldsEqB at hf
      rw [Bool.and_eq_true, Bool.and_eq_true, Bool.and_eq_true, Bool.and_eq_true] at hf
      obtain ⟨h1, h2, h3, h4, h5⟩ := hf
      have h1 := Nat.eq_of_beq_eq_true h1
      cases l with
      | nil => cases t <;> simp [fitsR] at hfit
      | cons x l => cases m with
        | nil => simp [cellsEq] at hc
        | cons y m =>
          simp only [cellsEq] at hc
          cases he : cellEq x y with
          | none => simp [he] at hc
          | some b1 =>
            cases hes : cellsEq l m with
            | none => simp [he, hes] at hc
            | some b2 =>
              simp only [he, hes, Option.some.injEq] at hc
              subst hc
              have hul : off < us.size := by
                have := hl.1
                simp at this
                omega
              have hvl : off < vs.size := by
                have := hm.1
                simp at this
                omega
              have hdu : us.toList.drop off = us[off] :: us.toList.drop (off + 1) := by
                have : off < us.toList.length := by simpa using hul
                rw [List.drop_eq_getElem_cons this]
                simp
              have hdv : vs.toList.drop off = vs[off] :: vs.toList.drop (off + 1) := by
                have : off < vs.toList.length := by simpa using hvl
                rw [List.drop_eq_getElem_cons this]
                simp
              rw [hdu] at hl
              rw [hdv] at hm
              have rx := hl.2 0 x us[off] rfl rfl
              have ry := hm.2 0 y vs[off] rfl rfl
              obtain ⟨k1, k2⟩ := cell_equal (w' := w') (d := d) h4 hfit he rx ry
              have rl : RelL c st w l (us.toList.drop (off + 1)) := ⟨by have := hl.1; simpa using this, fun i a v ha hv => hl.2 (i + 1) a v (by simpa using ha) (by simpa using hv)⟩
              have rm : RelL c st w m (vs.toList.drop (off + 1)) := ⟨by have := hm.1; simpa using this, fun i a v ha hv => hm.2 (i + 1) a v (by simpa using ha) (by simpa using hv)⟩
              have ih := fields_equal (w' := w') (d := d) fs (off + 1) r l m h5 k2 hes rl rm
              unfold Op.eqFields
              rw [if_pos (by simpa using h2)]
              have p1 : (part f.type us f.offset).run P w' = .ok us[off] w' := run_part_plain w' h3 (by rw [h1]; exact Array.getElem?_eq_getElem hul)
              have p2 : (part f.type vs f.offset).run P w' = .ok vs[off] w' := run_part_plain w' h3 (by rw [h1]; exact Array.getElem?_eq_getElem hvl)
              simp only [Sem.run_bind, p1, p2, k1, Result.andThen_ok]
              cases b1
              · simp
              · simp [ih]

theorem eqs_ok {P : Program} {tr : Tr} (h : tr.all (recEq P) = true) : EqOk P (tabOf tr) := by
  intro t ht c st w l m us vs b op ox oy hfit hc hl hm w'
  have ht : (match tr.find t with | some r => r.eq | none => false) = true := ht
  cases hf : tr.find t with
  | none => rw [hf] at ht; cases ht
  | some r =>
    rw [hf] at ht
    have ht : r.eq = true := ht
    have h1 := Tr.all_find tr h hf
    unfold recEq at h1
    rw [ht, Bool.not_true, Bool.false_or] at h1
    unfold Tab.fits at hfit
    have hrow : (tabOf tr).row t = r.row := by show (match tr.find t with | some r => r.row | none => none) = _; rw [hf]
    rw [hrow] at hfit
    cases hq : r.row with
    | none => rw [hq] at h1; cases h1
    | some q =>
      rw [hq] at h1 hfit
      have h1 : structEqB P t q = true := h1
      have hfit : fitsR q l = true := hfit
      unfold structEqB at h1
      split at h1
      · rename_i fs hu
        rw [Bool.and_eq_true, Bool.and_eq_true, Bool.not_eq_true', Bool.not_eq_true'] at h1
        have hfo : P.fieldsOf t = fs := by unfold Program.fieldsOf; rw [hu]
        refine ⟨run_eqGuard_agg w' op t ox oy us vs h1.2.1, ?_⟩
        show (Op.equalIn (9999 + 1) t (.agg us) (.agg vs)).run P w' = .ok b w'
        rw [run_equalIn_struct w' 9999 t us vs (by rw [hfo]; exact hu) h1.1, hfo]
        exact fields_equal (d := 9998) fs.toList 0 q l m h1.2.2 hfit hc (by simpa using hl) (by simpa using hm)
      · cases h1

end Go.TM
