/- A machine over trees: an evaluator of the code, and that what it finds is so; part 4. -/
import Derived.Test.YtiljcjnnhkidbaaTm3
import Derived.Laws.StructEq
import Derived.ChangeKeysEq
namespace Go.TM
open Go Go.RowKit Go.ChangeShapes
mutual
theorem Ty.tL : (t : Ty) → Ty.eq? t t = some ⟨rfl⟩
 | .int k => by simp [Ty.eq?]
 | .bool => rfl
 | .str => rfl
 | .sl r => by simp [Ty.eq?, RT.tL r]
theorem RT.tL : (r : RT) → RT.eq? r r = some ⟨rfl⟩
 | .nil => rfl
 | .cons t r => by simp [RT.eq?, Ty.tL t, RT.tL r]
end
theorem Gy (r : RT) (xs : List (ak r)) : bn r xs = some xs := by
 unfold bn; rw [RT.tL]
theorem qc {p : OP} {ps : List OP} {t : RT} {o : OV} {os : List OV} {y : ak t} {x : den p.ty} {z : ak (jP ps t)} (h1 : oW p o = some x) (h2 : cB ps t os y = some z) : cB (p :: ps) t (o :: os) y = some ((x, z) : ak (jP (p :: ps) t)) := by
 unfold cB; rw [h1, h2]; rfl
theorem Ji {k : IntKind} {n : Int} : oW (.int k) (.int k n) = some n := if_pos rfl
def k9 : RT → List OP
 | .nil => []
 | .cons (.int k) r => .int k :: k9 r
 | .cons .bool r => .bool :: k9 r
 | .cons .str r => .str :: k9 r
 | .cons (.sl q) r => .shr q :: k9 r
def Cz.free : Cz := { bx := fun _ => 0, lc := fun _ _ => .nil, own := fun _ => none }
theorem EY {w : World} {f : Nat → Lb} : (r : RT) → (t : RT) → (j : Nat) → (vs : List Value) → (x : ak r) → (y : ak t) → bZ w (fun _ => True) r vs x → AK r x →
   ∃ z : ak (jP (k9 r) t), a8 Cz.free w f j (cL (k9 r) t z).1 vs ∧ cB (k9 r) t (cL (k9 r) t z).1 y = some z ∧ (AK t y → AK (jP (k9 r) t) z)
 | .nil, t, j, vs, x, y, h, _ => by
   have : vs = [] := h; subst this; exact ⟨y, rfl, rfl, id⟩
 | .cons ty r, t, j, vs, x, y, h, hs => by
   obtain ⟨v, l, rfl, h1, h2⟩ := h; obtain ⟨s1, s2⟩ := lV.1 hs; obtain ⟨z, g1, g2, g3⟩ := EY (f := f) r t (j + 1) l x.2 y h2 s2
   cases ty with
   | int k =>
     refine ⟨(x.1, z), ⟨l, by rw [oK.1 h1], g1⟩, ?_, fun hy => lV.2 ⟨s1, g3 hy⟩⟩; exact qc (p := .int k) (o := .int k x.1) (Ji) g2
   | bool =>
     refine ⟨(x.1, z), ⟨l, by rw [pY.1 h1], g1⟩, ?_, fun hy => lV.2 ⟨s1, g3 hy⟩⟩; exact qc (p := .bool) (o := .bool x.1) (rfl) g2
   | str =>
     refine ⟨(x.1, z), ⟨l, by rw [td.1 h1], g1⟩, ?_, fun hy => lV.2 ⟨s1, g3 hy⟩⟩; exact qc (p := .str) (o := .str x.1) (rfl) g2
   | sl q =>
     refine ⟨(x.1, z), ⟨v, l, rfl, bw.stays ⟨Nat.le_refl _, fun _ _ _ => rfl, fun _ _ _ => rfl⟩ _ _ _ h1, g1⟩, ?_, fun hy => lV.2 ⟨s1, g3 hy⟩⟩; exact qc (p := .shr q) (o := .shr q x.1) (Gy q x.1) g2
def OP.same : OP → OP → Bool
 | .int k, .int l => decide (k = l)
 | .bool, .bool => true
 | .str, .str => true
 | .shr r, .shr s => (RT.eq? r s).isSome
 | _, _ => false
theorem OP.xp {p q : OP} (h : p.same q = true) : p = q := by
 cases p <;> cases q <;> simp [OP.same] at h
 · rw [h]
 · rfl
 · rfl
 · rename_i r s; obtain ⟨⟨e⟩, _⟩ := Option.isSome_iff_exists.1 h; rw [e]
def uH : List OP → List OP → Bool
 | [], [] => true
 | p :: l, q :: m => p.same q && uH l m
 | _, _ => false
theorem AO : (l m : List OP) → uH l m = true → l = m
 | [], [], _ => rfl
 | p :: l, q :: m, h => by
   unfold uH at h; rw [Bool.and_eq_true] at h; rw [OP.xp h.1, AO l m h.2]
 | [], _ :: _, h => by simp [uH] at h
 | _ :: _, [], h => by simp [uH] at h
def FR (P : Program) : List TypeId → List AP → Bool
 | [], [] => true
 | t :: ts, .val agg os :: ps => (match AN P 30 t with
     | some r => uH (k9 r) os
     | none => false) && ((match P.underlying t with | some (.struct _) => agg | _ => !agg) && (P.readableRec t && (Nat.blt t P.types.size && FR P ts ps)))
 | _, _ => false
theorem one_cell {P : Program} {w : World} {r : Reach} {b : Nat} {t : TypeId} {v : Value} {rt : RT} (hn : AN P 30 t = some rt) (hs : ∀ fs, P.underlying t ≠ some (.struct fs)) (h : Value.okWide P w r b t v) : v.cells.toList = [v] := by
 cases hu : P.underlying t with
 | none => simp [AN, hu] at hn
 | some d =>
   cases v <;> try rfl
   rename_i cs
   exfalso
   cases d <;> first | exact hs _ hu | (simp [AN, hu] at hn; done) | (simp [Value.okWide, hu, Cell.okWide, Cell.ok] at h)
theorem CD {H : Type} {enc : TypeId × Value → H} {P : Program} {w : World} {lc : Nat → Nat → Loc} : (ts : List TypeId) → (ps : List AP) → FR P ts ps = true → (i : Nat) → (vs : List Value) → (ds : List (DataW H)) → (p : List MemPlace) →
   (∀ (j : Nat) t v, ts[j]? = some t → vs[j]? = some v → ∃ b, Value.okWide P w .any b t v) → DataW.TrodAll enc P w 0 (fun _ => true) true ts vs ds p →
   ∃ (x : ak (ar (ps.map some))) (cM : List AV), ek ps cM = some x ∧ vC Cz.free w lc i cM vs ∧ AK (ar (ps.map some)) x
 | [], [], _, i, vs, ds, p, _, hA => by
   obtain ⟨rfl, _, _⟩ := trodAll_nil hA; exact ⟨(), [], rfl, rfl, AL _⟩
 | [], _ :: _, hb, _, _, _, _, _, _ => by simp [FR] at hb
 | t :: ts, [], hb, _, _, _, _, _, _ => by simp [FR] at hb
 | t :: ts, .io _ _ :: _, hb, _, _, _, _, _, _ => by simp [FR] at hb
 | t :: ts, .box _ _ :: _, hb, _, _, _, _, _, _ => by simp [FR] at hb
 | t :: ts, .bo _ :: _, hb, _, _, _, _, _, _ => by simp [FR] at hb
 | t :: ts, .val agg os :: ps, hb, i, vs, ds, p, oV, hA => by
   obtain ⟨v, Up, d, YU, p', q', rfl, rfl, rfl, h1, h2⟩ := trodAll_cons hA; unfold FR at hb; rw [Bool.and_eq_true, Bool.and_eq_true, Bool.and_eq_true, Bool.and_eq_true] at hb; obtain ⟨b1, b2, _, _, b5⟩ := hb; obtain ⟨y, cM, g1, g2, g3⟩ := CD (lc := lc) ts ps b5 (i + 1) Up YU q' (fun j t v ht hv => oV (j + 1) t v (by simpa using ht) (by simpa using hv)) h2; obtain ⟨b0, fb⟩ := oV 0 t v rfl rfl
   cases hr : AN P 30 t with
   | none => rw [hr] at b1; cases b1
   | some r =>
     rw [hr] at b1; have qn := AO _ _ b1; subst qn; obtain ⟨fuel, hd⟩ := h1; obtain ⟨x, Ga, BH⟩ := Dm 30 hr hd; obtain ⟨z, k1, k2, k3⟩ := EY (f := .bA i) r (ar (ps.map some)) 0 v.cells.toList x y Ga BH
     cases agg with
     | false =>
       have hs : ∀ fs, P.underlying t ≠ some (.struct fs) := by
         intro fs e; rw [e] at b2
         cases b2
       rw [one_cell hr hs fb] at k1; refine ⟨z, .val false (cL (k9 r) (ar (ps.map some)) z).1 :: cM, ?_, ⟨v, Up, rfl, k1, g2⟩, k3 g3⟩; show (match ek ps cM with | some y => Cr (.val false (k9 r)) (ar (ps.map some)) (.val false _) y | none => none) = _; rw [g1]; exact k2
     | true =>
       obtain ⟨fs, hu⟩ : ∃ fs, P.underlying t = some (.struct fs) := by
         cases hu : P.underlying t with
         | none => rw [hu] at b2; cases b2
         | some d =>
           rw [hu] at b2
           cases d <;> first | exact ⟨_, rfl⟩ | cases b2
       obtain ⟨cs, rfl, _⟩ : ∃ cs, v = .agg cs ∧ True := by
         unfold Value.okWide at fb; rw [hu] at fb; obtain ⟨cs, e, _⟩ := fb; exact ⟨cs, e, trivial⟩
       refine ⟨z, .val true (cL (k9 r) (ar (ps.map some)) z).1 :: cM, ?_, ⟨.agg cs, Up, rfl, ⟨cs, rfl, k1⟩, g2⟩, k3 g3⟩; show (match ek ps cM with | some y => Cr (.val true (k9 r)) (ar (ps.map some)) (.val true _) y | none => none) = _; rw [g1]; exact k2
theorem CE {H : Type} {enc : TypeId × Value → H} {P : Program} (hl : laidOutB P = true) {W W' : World} (hb : Below W.heap.size W W') : (ts : List TypeId) → (ps : List AP) → FR P ts ps = true → (vs : List Value) → (ds : List (DataW H)) → (p : List MemPlace) → (∀ x ∈ p, x.block < W.heap.size) →
   DataW.TrodAll enc P W 0 (fun _ => true) true ts vs ds p → DataW.TrodAll enc P W' 0 (fun b => decide (b < W.heap.size)) true ts vs ds p
 | [], [], _, vs, ds, p, _, hA => by
   obtain ⟨rfl, rfl, rfl⟩ := trodAll_nil hA; exact trodAll_mk0
 | [], _ :: _, hb, _, _, _, _, _ => by simp [FR] at hb
 | t :: ts, [], hb, _, _, _, _, _ => by simp [FR] at hb
 | t :: ts, .io _ _ :: _, hb, _, _, _, _, _ => by simp [FR] at hb
 | t :: ts, .box _ _ :: _, hb, _, _, _, _, _ => by simp [FR] at hb
 | t :: ts, .bo _ :: _, hb, _, _, _, _, _ => by simp [FR] at hb
 | t :: ts, .val agg os :: ps, hp, vs, ds, p, bP, hA => by
   obtain ⟨v, Up, d, YU, p', q', rfl, rfl, rfl, h1, h2⟩ := trodAll_cons hA; unfold FR at hp; rw [Bool.and_eq_true, Bool.and_eq_true, Bool.and_eq_true, Bool.and_eq_true] at hp; obtain ⟨_, _, b3, b4, b5⟩ := hp; exact trodAll_cons_mk (Below.trod hl b3 (Nat.le_of_ble_eq_true b4) h1 hb (fun x hx => bP x (List.mem_append_left _ hx))) (CE hl hb ts ps b5 Up YU q' (fun x hx => bP x (List.mem_append_right _ hx)) h2)
theorem Jj {H : Type} {enc : TypeId × Value → H} {P : Program} (hl : laidOutB P = true) {f : FuncId} {ps : List AP} {s : Nat} {t : ak (ar (ps.map some)) → Option (ak (bQ [{ src := .tmp s, agg := false, ps := [.bool] }] (ba ps)))}
   (hk : nN P f (jR ps [{ src := .tmp s, agg := false, ps := [.bool] }] t)) {ts : List TypeId} (Nu : FR P ts ps = true) (YV : ∀ x, AK (ar (ps.map some)) x → ∃ y, t x = some y ∧ y.1 = true)
   {W : World} {base : Nat} {args : Array Value} {ds : List (DataW H)} {p : List MemPlace} (oV : ∀ (j : Nat) t v, ts[j]? = some t → args[j]? = some v → Value.okWide P W .any base t v)
   (hA : DataW.TrodAll enc P W 0 (fun _ => true) true ts args.toList ds p) (bP : ∀ x ∈ p, x.block < W.heap.size) :
   Calls P f args W fun e W' => e = .returned (.bool true) ∧ Below W.heap.size W W' ∧ DataW.TrodAll enc P W' 0 (fun b => decide (b < W.heap.size)) true ts args.toList ds p := by
 obtain ⟨x, cM, h1, h2, h3⟩ := CD (lc := fun _ _ => .nil) ts ps Nu 0 args.toList ds p (fun j t v ht hv => ⟨base, oV j t v ht (by rwa [Array.getElem?_toList] at hv)⟩) hA; obtain ⟨y, hy, YS⟩ := YV x h3
 let μ : Mu := { m := fun _ => False, ok := fun _ => True, an := [] }
 have hH : Handed Cz.free W μ := {
   m := fun b => ⟨fun h => h.elim, fun ⟨l, h, _⟩ => by cases h⟩
   ok := fun b => ⟨fun _ => rfl, fun _ => trivial⟩
   lt := fun b l h => by cases h
   lb := fun b l h => by cases h }
 have hs : jR ps [{ src := .tmp s, agg := false, ps := [.bool] }] t cM = some { r := bQ [{ src := .tmp s, agg := false, ps := [.bool] }] (ba ps), o := t x, res := fun y => { outs := (eS [{ src := .tmp s, agg := false, ps := [.bool] }] (ba ps) y).1, exts := kn ps (eS [{ src := .tmp s, agg := false, ps := [.bool] }] (ba ps) y).2 } } := by
   unfold jR; rw [h1]
 refine (hk.ok Cz.free W μ (fun _ _ => .nil) cM args _ y hH h2 hs hy).mono fun e W' ⟨v, he, c', hb, hV, _⟩ => ?_
 have Uq : Below W.heap.size W W' := ⟨hb.kept.1, hb.kept.2.1, hb.kept.2.2.1, hb.kept.2.2.2, fun k hk => hb.old k hk (fun h => h.elim)⟩; have hv : v = .bool true := by
   have hV : oR c' W' [.one (.bool y.1)] v := hV; rcases hV with ⟨r, e1, g⟩ | ⟨g, _⟩
   · simp only [List.cons.injEq, and_true] at e1; subst e1; obtain ⟨v', l, e2, g2, _⟩ := g; simp only [List.cons.injEq] at e2; obtain ⟨e2, _⟩ := e2; obtain ⟨l', g3, _⟩ := g2; simp only [List.cons.injEq] at g3; rw [e2, g3.1, YS]
   · simp at g
 exact ⟨by rw [he, hv], Uq, CE hl Uq ts ps Nu args.toList ds p bP hA⟩
theorem eA {a : Int} (h1 : -9223372036854775808 ≤ a) (h2 : a < 9223372036854775808) : IntKind.i64.wrap a = a := by
 rw [IntKind.wrap_i64]; omega
theorem qP {X E : Type} {round : X → Option (Sum X E)} {n : Nat} (st : Nat → X) (g : Nat → Option E) (La : ∃ e, round (st n) = some (.inr e) ∧ g n = some e)
   (yU : ∀ k, k < n → (∃ e, round (st k) = some (.inr e) ∧ g k = some e) ∨ (round (st k) = some (.inl (st (k + 1))) ∧ g k = g (k + 1))) : ∀ k, k ≤ n → aE round (st k) = g k := by
 have key : ∀ d k, k + d = n → aE round (st k) = g k := by
   intro d
   induction d with
   | zero =>
     intro k hk; have : k = n := by omega
     subst this; obtain ⟨e, h1, h2⟩ := La; rw [iq, h1, h2]
   | succ d ih =>
     intro k hk; rcases yU k (by omega) with ⟨e, h1, h2⟩ | ⟨h1, h2⟩
     · rw [iq, h1, h2]
     · rw [iq, h1, h2]; exact ih (k + 1) (by omega)
 intro k hk; exact key (n - k) k (by omega)
theorem ee {X E : Type} {round : X → Option (Sum X E)} (n : Nat) (st : Nat → X) {e : E} (La : round (st n) = some (.inr e))
   (yU : ∀ k, k < n → round (st k) = some (.inl (st (k + 1)))) : aE round (st 0) = some e :=
 qP st (fun _ => some e) ⟨e, La, rfl⟩ (fun k hk => .inr ⟨yU k hk, rfl⟩) 0 (Nat.zero_le _)
theorem ef {X E : Type} {round : X → Option (Sum X E)} (n : Nat) (I : Nat → X → Prop) (Q : E → Prop) (La : ∀ x, I n x → ∃ e, round x = some (.inr e) ∧ Q e)
   (yU : ∀ k x, k < n → I k x → (∃ e, round x = some (.inr e) ∧ Q e) ∨ (∃ y, round x = some (.inl y) ∧ I (k + 1) y)) {x : X} (h : I 0 x) : ∃ e, aE round x = some e ∧ Q e := by
 have key : ∀ d k x, k + d = n → I k x → ∃ e, aE round x = some e ∧ Q e := by
   intro d
   induction d with
   | zero =>
     intro k x hk hI; have : k = n := by omega
     subst this; obtain ⟨e, h1, h2⟩ := La x hI; exact ⟨e, by rw [iq, h1], h2⟩
   | succ d ih =>
     intro k x hk hI; rcases yU k x (by omega) hI with ⟨e, h1, h2⟩ | ⟨y, h1, h2⟩
     · exact ⟨e, by rw [iq, h1], h2⟩
     · obtain ⟨e, h3, h4⟩ := ih (k + 1) y (by omega) h2; exact ⟨e, by rw [iq, h1]; exact h3, h4⟩
 exact key n 0 x (by omega) h
theorem ir {A B C : Type} {a : A} {f : A → Option C} {g : B → Option C} : cj (some (.inl a)) f g = f a := rfl
theorem ah {p : Prop} [Decidable p] (h : p) : decide p = true := decide_eq_true h
theorem ai {p : Prop} [Decidable p] (h : ¬ p) : decide p = false := decide_eq_false h
theorem aC (k : Nat) : Int.toNat ((k : Nat) : Int) = k := rfl
theorem my {a b : Nat} (h : a < b) : Nat.blt a b = true := Nat.ble_eq_true_of_le h
theorem aH {a b : Nat} (h : a ≤ b) : Nat.ble a b = true := Nat.ble_eq_true_of_le h
theorem aq (k : Nat) : decide ((0 : Int) ≤ ((k : Nat) : Int)) = true := ah (by omega)
theorem az {k n : Nat} (h : k < n) : decide (((k : Nat) : Int) < ((n : Nat) : Int)) = true := ah (by omega)
theorem aF (n : Nat) : decide (((n : Nat) : Int) < ((n : Nat) : Int)) = false := ai (by omega)
theorem aJ {k : Nat} (h : k < 4611686018427387904) : IntKind.i64.wrap (((k : Nat) : Int) + (1 : Int)) = (((k + 1 : Nat)) : Int) := by
 rw [eA] <;> omega
theorem AQ (bs : ByteArray) : ∀ (d i : Nat) (r : List UInt8), bs.size - i = d → ByteArray.toList.loop bs i r = r.reverse ++ bs.data.toList.drop i
 | 0, i, r, h => by
   unfold ByteArray.toList.loop; rw [if_neg (by omega)]; have : bs.data.toList.drop i = [] := List.drop_of_length_le (by
     have : bs.data.toList.length = bs.size := Array.length_toList; omega)
   rw [this, List.append_nil]
 | d + 1, i, r, h => by
   unfold ByteArray.toList.loop; have bP : i < bs.size := by omega
   rw [if_pos bP, AQ bs d (i + 1) _ (by omega)]; have YW : i < bs.data.toList.length := by
     have : bs.data.toList.length = bs.size := Array.length_toList; omega
   rw [List.reverse_cons, List.append_assoc, List.drop_eq_getElem_cons YW]
   congr 2
   simp [ByteArray.get!, bP]
theorem AR (bs : ByteArray) : bs.toList = bs.data.toList := by
 unfold ByteArray.toList; rw [AQ bs _ 0 [] rfl]; simp
theorem Jk {a b : ByteArray} : oH a b = true ↔ a = b := by
 unfold oH; rw [beq_iff_eq]
 constructor
 · intro h; rw [AR, AR] at h; obtain ⟨⟨x⟩⟩ := a; obtain ⟨⟨y⟩⟩ := b; exact congrArg (fun l => ByteArray.mk ⟨l⟩) h
 · intro h; rw [h]
theorem AS (a : ByteArray) : oH a a = true := Jk.2 rfl
def wl {α : Type} (f : α → Nat) (xs : List α) : Nat := xs.foldr (fun x n => f x + n) 0
theorem NR {α : Type} (f : α → Nat) (x : α) (xs : List α) : wl f (x :: xs) = f x + wl f xs := rfl
theorem QH {α : Type} (f : α → Nat) (xs ys : List α) : wl f (xs ++ ys) = wl f xs + wl f ys := by
 induction xs with
 | nil => simp [wl]
 | cons x xs ih =>
   show f x + wl f (xs ++ ys) = f x + wl f xs + wl f ys; rw [ih]; omega
theorem uI {α : Type} (f : α → Nat) (h : ∀ x, f x = 0) (xs : List α) : wl f xs = 0 := by
 induction xs with
 | nil => rfl
 | cons y xs ih => show f y + wl f xs = 0; rw [h, ih]
theorem mz {X Y E F : Type} {r1 : X → Option (Sum X E)} {r2 : Y → Option (Sum Y F)} (n : Nat) (R : Nat → X → Y → Prop) (Q : E → F → Prop)
   (yU : ∀ k x y, k ≤ n → R k x y → (∃ e f, r1 x = some (.inr e) ∧ r2 y = some (.inr f) ∧ Q e f) ∨ (k < n ∧ ∃ x' y', r1 x = some (.inl x') ∧ r2 y = some (.inl y') ∧ R (k + 1) x' y')) {x : X} {y : Y} (h : R 0 x y) :
   ∃ e f, aE r1 x = some e ∧ aE r2 y = some f ∧ Q e f := by
 have key : ∀ d k x y, k + d = n → R k x y → ∃ e f, aE r1 x = some e ∧ aE r2 y = some f ∧ Q e f := by
   intro d
   induction d with
   | zero =>
     intro k x y hk hR; rcases yU k x y (by omega) hR with ⟨e, f, h1, h2, h3⟩ | ⟨bP, _⟩
     · exact ⟨e, f, by rw [iq, h1], by rw [iq, h2], h3⟩
     · omega
   | succ d ih =>
     intro k x y hk hR; rcases yU k x y (by omega) hR with ⟨e, f, h1, h2, h3⟩ | ⟨_, x', y', h1, h2, h3⟩
     · exact ⟨e, f, by rw [iq, h1], by rw [iq, h2], h3⟩
     · obtain ⟨e, f, g1, g2, g3⟩ := ih (k + 1) x' y' (by omega) h3; exact ⟨e, f, by rw [iq, h1]; exact g1, by rw [iq, h2]; exact g2, g3⟩
 exact key n 0 x y (by omega) h
end Go.TM
namespace Go.TM
open Go Go.RowKit
def oC (P : Program) : Nat → RT → List Field → Bool
 | _, .nil, [] => true
 | off, .cons t r, f :: fs => Nat.beq f.offset off && ((f.name != "_") && (P.plainKey f.type && (EU P f.type t && oC P (off + 1) r fs)))
 | _, _, _ => false
def yh (P : Program) (t : TypeId) (r : RT) : Bool :=
 match P.underlying t with
 | some (.struct fs) => !P.stoodInHeld t && (!P.eqGuardType P.depth t && oC P 0 r fs.toList)
 | _ => false
def O1 (P : Program) (t : Nat) (r : Rec) : Bool := !r.eq || (match r.row with | some q => yh P t q | none => false)
theorem Gz {P : Program} {c : Cz} {st : St} {w w' : World} {t : TypeId} {ty : Ty} {d : Nat} {a b : CV} {x y : Value} {r : Bool} {q : RT} {l : List CV} (hk : EU P t ty = true) (hf : oI (.cons ty q) (a :: l) = true) (h : ra a b = some r) (hx : im c st w a x) (hy : im c st w b y) :
   (Op.equalIn (d + 1) t x y).run P w' = .ok r w' ∧ oI q l = true := by
 cases ty with
 | sl _ => cases a <;> simp [oI] at hf
 | int k =>
   obtain ⟨e, he, h2⟩ := eG hk
   cases a <;> try (simp [oI] at hf; done)
   rename_i k1 n; simp only [oI, Bool.and_eq_true, decide_eq_true_eq] at hf
   cases b <;> try (simp [ra] at h; done)
   rename_i k2 m; simp only [ra] at h
   split at h
   · rename_i Ni; subst Ni
     cases h
     cases e <;> simp at h2
     have hx : x = .int k1 n := hx; have hy : y = .int k1 m := hy; subst hx hy; refine ⟨?_, hf.2⟩; rw [run_equalIn_int w' d t k1 _ n m he]
     congr 1
   · cases h
 | bool =>
   obtain ⟨e, he, h2⟩ := eG hk
   cases a <;> try (simp [oI] at hf; done)
   cases b <;> try (simp [ra] at h; done)
   rename_i p q'; simp only [ra, Option.some.injEq] at h; subst h
   cases e <;> simp at h2
   have hx : x = .bool p := hx; have hy : y = .bool q' := hy; subst hx hy; exact ⟨run_equalIn_bool' w' d t p q' he, hf⟩
 | str =>
   obtain ⟨e, he, h2⟩ := eG hk
   cases a <;> try (simp [oI] at hf; done)
   cases b <;> try (simp [ra] at h; done)
   rename_i p q'; simp only [ra, Option.some.injEq] at h; subst h
   cases e <;> simp at h2
   have hx : x = .string p := hx; have hy : y = .string q' := hy; subst hx hy; exact ⟨run_equalIn_string w' d t p q' he, hf⟩
theorem xq {P : Program} {c : Cz} {st : St} {w w' : World} {d : Nat} {us vs : Array Value} : (fs : List Field) → (off : Nat) → (q : RT) → (l m : List CV) → {b : Bool} → oC P off q fs = true → oI q l = true → kU l m = some b →
   ei c st w l (us.toList.drop off) → ei c st w m (vs.toList.drop off) → (Op.eqFields (d + 1) us vs fs).run P w' = .ok b w'
 | [], off, q, l, m, b, hf, oN, hc, hl, hm => by
   cases q with
   | cons t r => cases t <;> simp [oC] at hf
   | nil =>
     cases l with
     | cons _ _ => simp [oI] at oN
     | nil => cases m with
       | cons _ _ => simp [kU] at hc
       | nil =>
         simp only [kU, Option.some.injEq] at hc; subst hc; simp [Op.eqFields]
 | f :: fs, off, q, l, m, b, hf, oN, hc, hl, hm => by
   cases q with
   | nil => simp [oC] at hf
   | cons t r =>
     unfold oC at hf; rw [Bool.and_eq_true, Bool.and_eq_true, Bool.and_eq_true, Bool.and_eq_true] at hf; obtain ⟨h1, h2, h3, h4, h5⟩ := hf; have h1 := Nat.eq_of_beq_eq_true h1
     cases l with
     | nil => cases t <;> simp [oI] at oN
     | cons x l => cases m with
       | nil => simp [kU] at hc
       | cons y m =>
         simp only [kU] at hc
         cases he : ra x y with
         | none => simp [he] at hc
         | some b1 =>
           cases YX : kU l m with
           | none => simp [he, YX] at hc
           | some b2 =>
             simp only [he, YX, Option.some.injEq] at hc; subst hc; have HT : off < us.size := by
               have := hl.1; simp at this; omega
             have xU : off < vs.size := by
               have := hm.1; simp at this; omega
             have hdu : us.toList.drop off = us[off] :: us.toList.drop (off + 1) := by
               have : off < us.toList.length := by simpa using HT
               rw [List.drop_eq_getElem_cons this]; simp
             have TG : vs.toList.drop off = vs[off] :: vs.toList.drop (off + 1) := by
               have : off < vs.toList.length := by simpa using xU
               rw [List.drop_eq_getElem_cons this]; simp
             rw [hdu] at hl; rw [TG] at hm; have rx := hl.2 0 x us[off] rfl rfl; have ry := hm.2 0 y vs[off] rfl rfl; obtain ⟨k1, k2⟩ := Gz (w' := w') (d := d) h4 oN he rx ry; have rl : ei c st w l (us.toList.drop (off + 1)) := ⟨by have := hl.1; simpa using this, fun i a v ha hv => hl.2 (i + 1) a v (by simpa using ha) (by simpa using hv)⟩; have rm : ei c st w m (vs.toList.drop (off + 1)) := ⟨by have := hm.1; simpa using this, fun i a v ha hv => hm.2 (i + 1) a v (by simpa using ha) (by simpa using hv)⟩; have ih := xq (w' := w') (d := d) fs (off + 1) r l m h5 k2 YX rl rm; unfold Op.eqFields; rw [if_pos (by simpa using h2)]; have p1 : (part f.type us f.offset).run P w' = .ok us[off] w' := run_part_plain w' h3 (by rw [h1]; exact Array.getElem?_eq_getElem HT); have p2 : (part f.type vs f.offset).run P w' = .ok vs[off] w' := run_part_plain w' h3 (by rw [h1]; exact Array.getElem?_eq_getElem xU); simp only [Sem.run_bind, p1, p2, k1, Result.andThen_ok]
             cases b1
             · simp
             · simp [ih]
theorem Lc {P : Program} {tr : Tr} (h : tr.all (O1 P) = true) : uP P (jD tr) := by
 intro t ht c st w l m us vs b op ox oy oN hc hl hm w'; have ht : (match tr.find t with | some r => r.eq | none => false) = true := ht
 cases hf : tr.find t with
 | none => rw [hf] at ht; cases ht
 | some r =>
   rw [hf] at ht; have ht : r.eq = true := ht; have h1 := Tr.xo tr h hf; unfold O1 at h1; rw [ht, Bool.not_true, Bool.false_or] at h1; unfold jq.fits at oN; have fV : (jD tr).row t = r.row := by show (match tr.find t with | some r => r.row | none => none) = _; rw [hf]
   rw [fV] at oN
   cases hq : r.row with
   | none => rw [hq] at h1; cases h1
   | some q =>
     rw [hq] at h1 oN; have h1 : yh P t q = true := h1; have oN : oI q l = true := oN; unfold yh at h1
     split at h1
     · rename_i fs hu; rw [Bool.and_eq_true, Bool.and_eq_true, Bool.not_eq_true', Bool.not_eq_true'] at h1; have hfo : P.fieldsOf t = fs := by unfold Program.fieldsOf; rw [hu]
       refine ⟨run_eqGuard_agg w' op t ox oy us vs h1.2.1, ?_⟩; show (Op.equalIn (9999 + 1) t (.agg us) (.agg vs)).run P w' = .ok b w'; rw [run_equalIn_struct w' 9999 t us vs (by rw [hfo]; exact hu) h1.1, hfo]; exact xq (d := 9998) fs.toList 0 q l m h1.2.2 oN hc (by simpa using hl) (by simpa using hm)
     · cases h1
end Go.TM
namespace Go.TM
open Go Go.RowKit
def EZ (n : Nat) (ps : List AP) (x : ak (ar (ps.map some))) : St := aT (start n ps x) (some 0) (.one .dg)
def Ik (n : Nat) (r : RT) (xs : List (ak r)) (ps : List AP) (x : ak (ar (ps.map some))) : St := aT (start n ps x) (some 0) (.one (.nn r xs))
theorem E0 {P : Program} {tr : Tr} (hT : tr.all (vj P) = true) (hE : uP P (jD tr)) (hm : P.follows .mixedOrders = true) {S : il} (hS : km P S) {D : jb} {f : FuncId} {fn : Func} {code : Code} {n : Nat} {r : RT} {qs : List AP} {rs : List RP}
   {L : kV (ak (bQ rs (ba (.val false [.shr r] :: qs))))} {t : ak (ar ((AP.val false [.shr r] :: qs).map some)) → Option (ak (bQ rs (ba (.val false [.shr r] :: qs))))}
   (hf : P.funcs[f]? = some fn) (hb : fn.body = some code) (mW : O0 (jD tr) D fn code n (.val false [.shr r] :: qs) rs = true) (EW : (fn.name == "runtime.NumGoroutine") = false)
   (hL : ∀ (w0 : World) (mu : Mu) (y : ak (bQ rs (ba (.val false [.shr r] :: qs)))), j5 (.val false [.shr r] :: qs) mu → ∀ p ∈ cC code, kg P w0 mu n L y p.1 p.2)
   (Ld : ∀ z, dm (jD tr) S D L code (EZ n (.val false [.shr r] :: qs) (([] : List (ak r)), z)) (xj rs (.val false [.shr r] :: qs)) = t (([] : List (ak r)), z))
   (hnn : ∀ x, dm (jD tr) S D L code (Ik n r x.1 (.val false [.shr r] :: qs) x) (xj rs (.val false [.shr r] :: qs)) = t x) : nN P f (jR (.val false [.shr r] :: qs) rs t) := by
 unfold O0 at mW; rw [Bool.and_eq_true, Bool.and_eq_true, Bool.and_eq_true, Bool.and_eq_true] at mW; obtain ⟨h1, h2, h3, h4, h5⟩ := mW; refine ⟨EO (iN hT) hE hS hf hb (Nat.eq_of_beq_eq_true h1) (Nat.le_of_ble_eq_true h2) h3 (fun tm => uG tm _ _ h4) (fun w0 mu y hs => nW code (hL w0 mu y hs))
   (fun w0 mu => qN (iN hT) hE hm (nU (iN hT) hE hS w0 mu n)) (qb code h5) (fun w0 mu c a w x hR hn => ?_), fn, hf, EW, by rw [hb]; rfl⟩
 have KO : 0 < n := by
   have := Nat.le_of_ble_eq_true h2; simp at this; omega
 have qI := hR.eL 0; have hg : bI (start n (.val false [.shr r] :: qs) x) 0 = .one (.shr r x.1) := rfl; rw [hg] at qI; have D5 : bw w c.ok (.sl r) (a.eval (.tmp 0)) x.1 := qI; have h0 : 0 < a.tmps.size := by omega
 by_cases hv : a.eval (.tmp 0) = .slice none 0 0
 · refine ⟨c, EZ n (.val false [.shr r] :: qs) x, ?_, ?_⟩
   · have := hR.aT (d := some 0) (v := .one .dg) (u := a.eval (.tmp 0)) hv (fun k e => by cases e; exact h0)
     rwa [Ag a 0 _ h0 rfl] at this
   · have hx : x.1 = ([] : List (ak r)) := by
       rcases (lG _ _ _ _ _).1 D5 with ⟨_, h⟩ | ⟨_, _, h, _⟩
       · exact h
       · rw [hv] at h; cases h
     obtain ⟨x1, z⟩ := x; simp only at hx; subst hx; exact Ld z
 · refine ⟨c, Ik n r x.1 (.val false [.shr r] :: qs) x, ?_, hnn x⟩; have := hR.aT (d := some 0) (v := .one (.nn r x.1)) (u := a.eval (.tmp 0)) ⟨D5, hv⟩ (fun k e => by cases e; exact h0)
   rwa [Ag a 0 _ h0 rfl] at this
end Go.TM
namespace Go.TM
open Go Go.RowKit
section
variable {R : Type} (T : jq) (S : il) (D : jb) (L : kV R)
noncomputable def E1 : Nat → Code → St → (St → Option R) → (Ex → St → Option R) → Option R
 | 0, _, st, g, _ => g st
 | n + 1, .seq a b, st, g, k => dm T S D L a st fun e aP => match e with
   | .normal => E1 n b aP g k
   | e => k e aP
 | _, _, _, _, _ => none
end
def yV : Nat → Code → Code
 | 0, c => c
 | n + 1, .seq _ b => yV n b
 | _, _ => .skip
theorem CF {n : Nat} : (m : Nat) → (c : Code) → ez n c = true → ez n (yV m c) = true
 | 0, _, h => h
 | m + 1, c, h => by
   cases c with
   | seq a b =>
     unfold ez at h; rw [Bool.and_eq_true] at h; exact CF m b h.2
   | _ => rfl
theorem yW {ok : Nat → Code → Prop} : (m : Nat) → (c : Code) → cP ok c → cP ok (yV m c)
 | 0, _, h => h
 | m + 1, c, h => by
   cases c with
   | seq a b => exact yW m b h.2
   | _ => exact trivial
theorem AT {ok : Nat → Array Oper → Prop} : (m : Nat) → (c : Code) → dq ok c → dq ok (yV m c)
 | 0, _, h => h
 | m + 1, c, h => by
   cases c with
   | seq a b => exact AT m b h.2
   | _ => exact trivial
theorem E2 {R : Type} {P : Program} {T : jq} {S : il} {D : jb} {L : kV R} {w0 : World} {mu : Mu} {n : Nat} {r : R} {ok : Nat → Array Oper → Prop} (BK : p8 P T S w0 mu n) (hD : ow R P T S D w0 mu n ok)
   {k : Ex → St → Option R} {Q : Exit → Act → World → Prop} (hk : H0 w0 mu n r k Q) {g : St → Option R} : (m : Nat) → (cd : Code) → ez n cd = true → cP (kg P w0 mu n L r) cd → dq ok cd →
   (∀ {c : Cz} {st : St} {a : Act} {w : World}, Rel w0 mu c st a w → a.tmps.size = n → g st = some r → (yV m cd).wp P Q a w) →
   {c : Cz} → {st : St} → {a : Act} → {w : World} → Rel w0 mu c st a w → a.tmps.size = n → E1 T S D L m cd st g k = some r → cd.wp P Q a w
 | 0, cd, _, _, _, hg, c, st, a, w, h, hn, hv => hg h hn hv
 | m + 1, cd, hd, hL, hw, hg, c, st, a, w, h, hn, hv => by
   cases cd with
   | seq x y =>
     have hv : (dm T S D L x st fun e aP => match e with
       | .normal => E1 T S D L m y aP g k
       | e => k e aP) = some r := hv
     unfold ez at hd; rw [Bool.and_eq_true] at hd; refine wp_seq (w5 BK hD x hd.1 hL.1 hw.1 (fun {e} {c} {st} {a} {w} h1 h2 h3 => ?_) h hn hv)
     cases e with
     | normal => exact E2 BK hD hk m y hd.2 hL.2 hw.2 hg h1 h2 h3
     | exit m => exact hk h1 h2 h3
     | ret => exact hk h1 h2 h3
   | _ => have hv : (none : Option R) = some r := hv; cases hv
def Ur {R : Type} (P : Program) (w0 : World) (mu : Mu) (n : Nat) (k : Ex → St → Option R) (r : R) (b : Code) (hp : List (Option AP)) (g : ak (ar hp) → Option R) : Prop :=
 ∀ x, g x = some r → ∀ {Q : Exit → Act → World → Prop}, H0 w0 mu n r k Q → ∀ {c : Cz} {a : Act} {w : World}, Rel w0 mu c (lT hp x) a w → a.tmps.size = n → b.wp P Q a w
structure Us (tr : Tr) (S : il) (D : jb) (n : Nat) (ps : List AP) {R : Type} (L : kV R) (k : Ex → St → Option R) (P : Program) (b : Code) (hp : List (Option AP)) (g : ak (ar hp) → Option R) : Prop where
 ok : ∀ (w0 : World) (mu : Mu) (r : R), j5 ps mu → ez n b = true → dq (fun id ops => AI ops (D id) = true) b → cP (kg P w0 mu n L r) b → Ur P w0 mu n k r b hp g
theorem Le {P : Program} {tr : Tr} (hT : tr.all (vj P) = true) (hE : uP P (jD tr)) (hm : P.follows .mixedOrders = true) {S : il} (hS : km P S) {D : jb} {n : Nat} {ps : List AP} {R : Type} {L : kV R} {k : Ex → St → Option R} {b : Code} {hp : List (Option AP)} {g : ak (ar hp) → Option R}
   (h : ∀ x, dm (jD tr) S D L b (lT hp x) k = g x) : Us tr S D n ps L k P b hp g :=
 ⟨fun w0 mu _ _ hd hw hL x hx _ hk _ _ _ hr hn => w5 (nU (iN hT) hE hS w0 mu n) (qN (iN hT) hE hm (nU (iN hT) hE hS w0 mu n)) b hd hL hw hk hr hn ((h x).trans hx)⟩
theorem E3 {P : Program} {tr : Tr} (hT : tr.all (vj P) = true) (hE : uP P (jD tr)) (hm : P.follows .mixedOrders = true) {S : il} (hS : km P S) {D : jb} {f : FuncId} {fn : Func} {code b' : Code} {n m : Nat} {ps : List AP} {rs : List RP}
   {L : kV (ak (bQ rs (ba ps)))} {t : ak (ar (ps.map some)) → Option (ak (bQ rs (ba ps)))} {jd : List (Option AP)} {g' : ak (ar jd) → Option (ak (bQ rs (ba ps)))}
   (hf : P.funcs[f]? = some fn) (hb : fn.body = some code) (mW : O0 (jD tr) D fn code n ps rs = true) (EW : (fn.name == "runtime.NumGoroutine") = false)
   (hL : ∀ (w0 : World) (mu : Mu) (y : ak (bQ rs (ba ps))), j5 ps mu → ∀ p ∈ cC code, kg P w0 mu n L y p.1 p.2)
   (hr : yV m code = b') (oN : fi ps jd = true) (Gt : ∀ x, E1 (jD tr) S D L m code (start n ps x) (fun st => (AG st jd).bind g') (xj rs ps) = t x)
   (hs : Us tr S D n ps L (xj rs ps) P b' jd g') : nN P f (jR ps rs t) := by
 unfold O0 at mW; rw [Bool.and_eq_true, Bool.and_eq_true, Bool.and_eq_true, Bool.and_eq_true] at mW; obtain ⟨h1, h2, h3, h4, h5⟩ := mW; refine ⟨fun c w mu lc cM args A y hH hA gi ho => ?_, fn, hf, EW, by rw [hb]; rfl⟩; unfold jR at gi
 cases hx : ek ps cM with
 | none => rw [hx] at gi; cases gi
 | some x =>
   rw [hx] at gi; simp only [Option.some.injEq] at gi; subst gi; have zE : t x = some y := ho; obtain ⟨zD, c', Xm, fb, AE, Ic, AD, I8, hR⟩ := EN hH hA hx (Nat.le_of_ble_eq_true h2); refine calls_of_wp hf hb ?_; have hn := Nat.eq_of_beq_eq_true h1; rw [hn]; have jK : (args ++ Array.replicate (n - args.size) undef).size = n := by
     have : args.size ≤ n := by
       have h6 := Nat.le_of_ble_eq_true h2; have h7 := (uE ps 0 cM args.toList hx hA).2.1; simp at h7; omega
     simp; omega
   have hlp := nW code (hL w zD y AE); have hdr := qb code h5; refine E2 (nU (iN hT) hE hS w zD n) (qN (iN hT) hE hm (nU (iN hT) hE hS w zD n)) (k := xj rs ps) (r := y) (fun {e} {c1} {xT} {a1} {w1} q1 q2 q3 => ?_) m code h3 hlp hdr (fun {c1} {xT} {a1} {w1} q1 q2 q3 => ?_) hR jK ((Gt x).trans zE)
   · obtain ⟨he, v, mo, c2, Gl, hV, hX⟩ := Gs (P := P) (iN hT) Xm fb q1 (uG a1.tmps _ _ h4) I8.symm (by rw [← AD]; simp) Ic q3; have Aq : a1.defers = [] ∧ ∃ v, (results fn a1.tmps).run P w1 = .ok v w1 ∧ (∃ v', Ending.returned v = .returned v' ∧ ∃ c', yH w mu c' w1 ∧ oR c' w1 (eS rs (ba ps) y).1 v' ∧ fX c' w1 lc 0 cM args.toList (kn ps (eS rs (ba ps) y).2)) :=
       ⟨q1.plain, v, mo, v, rfl, c2, Gl, hV, hX⟩
     rcases he with rfl | rfl <;> exact Aq
   · obtain ⟨z, hz, q4⟩ := Option.bind_eq_some_iff.1 q3; obtain ⟨c2, q5⟩ := AH q1 AE oN hz; rw [hr]; refine hs.ok w zD y AE (hr ▸ CF m code h3) (hr ▸ AT m code hdr) (hr ▸ yW m code hlp) z q4 (fun {e} {c1} {xT} {a1} {w1} q1 q2 q3 => ?_) q5 q2; obtain ⟨he, v, mo, c2, Gl, hV, hX⟩ := Gs (P := P) (iN hT) Xm fb q1 (uG a1.tmps _ _ h4) I8.symm (by rw [← AD]; simp) Ic q3; have Aq : a1.defers = [] ∧ ∃ v, (results fn a1.tmps).run P w1 = .ok v w1 ∧ (∃ v', Ending.returned v = .returned v' ∧ ∃ c', yH w mu c' w1 ∧ oR c' w1 (eS rs (ba ps) y).1 v' ∧ fX c' w1 lc 0 cM args.toList (kn ps (eS rs (ba ps) y).2)) :=
       ⟨q1.plain, v, mo, v, rfl, c2, Gl, hV, hX⟩
     rcases he with rfl | rfl <;> exact Aq
end Go.TM
namespace Go.TM
open Go Go.RowKit
noncomputable section
structure TK (P : Program) where
 tr : Tr
 hT : tr.all (vj P) = true
 hE : uP P (jD tr)
 hm : P.follows .mixedOrders = true
structure KF (P : Program) where
 f : FuncId
 m : Pm × Pm × Pm
 yv : s7
 ok : nN P f yv
def KF.sl {P : Program} (k : KF P) : Nat × (Pm × Pm × Pm × s7) := (k.f, (k.m.1, k.m.2.1, k.m.2.2, k.yv))
def QI {P : Program} : List (KF P) → QF
 | [] => []
 | k :: l => k.sl :: QI l
theorem CG {P : Program} : (l : List (KF P)) → km P (vI (QI l))
 | [] => K9
 | k :: l => Jg k.ok (CG l)
def kw {P : Program} {f : FuncId} {s : s7} (h : nN P f s) : KF P := ⟨f, (.shr, .shr, .shr), s, h⟩
def kv {P : Program} (m : Pm × Pm × Pm) {f : FuncId} {s : s7} (h : nN P f s) : KF P := ⟨f, m, s, h⟩
structure LD where
 i : Nat
 b : Code
 hp : List (Option AP)
 e : List (Option AP)
 q : List (Option AP)
 r : ak (ar hp) → Option (Sum (ak (ar hp)) (Sum (ak (ar e)) (ak (ar q))))
def LD.Ok (l : LD) (P : Program) (n : Nat) (ps : List AP) : Prop :=
 ∀ {R : Type} (L : kV R) (y : R) (w0 : World) (mu : Mu), (∀ st k, L l.i l.b st k = yd l.hp l.e l.q l.r st k) → j5 ps mu → kg P w0 mu n L y l.i l.b
structure QJ (P : Program) (n : Nat) (ps : List AP) where
 d : LD
 ok : d.Ok P n ps
def kE {P : Program} {n : Nat} {ps : List AP} {R : Type} : List (QJ P n ps) → kV R
 | [] => SF
 | l :: ls => fun id b st k => bif Nat.beq id l.d.i then yd l.d.hp l.d.e l.d.q l.d.r st k else kE ls id b st k
def AU {P : Program} {n : Nat} {ps : List AP} : List (QJ P n ps) → List (Nat × Code)
 | [] => []
 | l :: ls => (l.d.i, l.d.b) :: AU ls
def E4 {P : Program} {n : Nat} {ps : List AP} : List (QJ P n ps) → Bool
 | [] => true
 | l :: ls => ls.all (fun m => !Nat.beq m.d.i l.d.i) && E4 ls
theorem Lf {P : Program} {n : Nat} {ps : List AP} {R : Type} : (ls : List (QJ P n ps)) → E4 ls = true → ∀ l ∈ ls, ∀ st (k : Ex → St → Option R), kE ls l.d.i l.d.b st k = yd l.d.hp l.d.e l.d.q l.d.r st k
 | [], _, l, h => by cases h
 | m :: ls, hb, l, h => by
   intro st k; unfold E4 at hb; rw [Bool.and_eq_true] at hb; rcases List.mem_cons.1 h with rfl | h
   · show (bif Nat.beq l.d.i l.d.i then _ else _) = _; rw [Nat.beq_refl]; rfl
   · show (bif Nat.beq l.d.i m.d.i then _ else kE ls l.d.i l.d.b st k) = _; have := List.all_eq_true.1 hb.1 l h; rw [Bool.not_eq_true'] at this; rw [this]; exact Lf ls hb.2 l h st k
theorem Il {P : Program} {n : Nat} {ps : List AP} : (ls : List (QJ P n ps)) → ∀ p ∈ AU ls, ∃ l ∈ ls, p = (l.d.i, l.d.b)
 | [], p, h => by cases h
 | m :: ls, p, h => by
   rcases List.mem_cons.1 h with rfl | h
   · exact ⟨m, List.mem_cons_self, rfl⟩
   · obtain ⟨l, h1, h2⟩ := Il ls p h; exact ⟨l, List.mem_cons_of_mem _ h1, h2⟩
theorem Dn {P : Program} {n : Nat} {ps : List AP} {R : Type} {ls : List (QJ P n ps)} (hb : E4 ls = true) {c : Code} (hc : cC c = AU ls) (y : R) (w0 : World) (mu : Mu) (hs : j5 ps mu) : ∀ p ∈ cC c, kg P w0 mu n (kE ls) y p.1 p.2 := by
 rw [hc]; intro p hp; obtain ⟨l, hl, rfl⟩ := Il ls p hp; exact l.ok (kE ls) y w0 mu (Lf ls hb l hl) hs
structure FC (P : Program) where
 t : TK P
 l : List (KF P)
 D : jb
 fn : Func
 ps : List AP
abbrev FC.code {P : Program} (F : FC P) : Code := K8 F.fn
abbrev FC.S {P : Program} (F : FC P) : il := vI (QI F.l)
abbrev FC.T {P : Program} (F : FC P) : jq := jD F.t.tr
abbrev FC.KL {P : Program} (F : FC P) : Type := QJ P F.fn.ntmps F.ps
abbrev FC.Ok {P : Program} (F : FC P) (l : LD) : Prop := l.Ok P F.fn.ntmps F.ps
abbrev FC.fin {P : Program} (F : FC P) (rs : List RP) : Ex → St → Option (ak (bQ rs (ba F.ps))) := xj rs F.ps
def FC.lp {P : Program} (F : FC P) (j : Nat) : Code := Ii F.code j
theorem FC.kl {P : Program} (F : FC P) {l : LD} (ls : List F.KL) (h1 : (CA F.D F.ps l.hp l.e l.q F.fn.ntmps l.b && E4 ls) = true) (h2 : cC l.b = AU ls)
   (ht : ∀ x, dm F.T F.S F.D (kE ls) l.b (lT l.hp x) (yc l.i l.hp l.e l.q) = l.r x) : F.Ok l := by
 rw [Bool.and_eq_true] at h1; exact fun _ _ w0 mu hL hs => Jh F.t.hT F.t.hE F.t.hm (CG F.l) hs h1.1 (fun z => Dn h1.2 h2 z w0 mu hs) ht hL
theorem FC.pM {P : Program} (F : FC P) {l : LD} (h : ∀ x, (CA F.D F.ps l.hp l.e l.q F.fn.ntmps l.b && (cC l.b).isEmpty, dm F.T F.S F.D SF l.b (lT l.hp x) (yc l.i l.hp l.e l.q)) = (true, l.r x)) : F.Ok l := by
 have h1 := congrArg Prod.fst (h (qC _)); have h1 : (CA F.D F.ps l.hp l.e l.q F.fn.ntmps l.b && (cC l.b).isEmpty) = true := h1; rw [Bool.and_eq_true] at h1; have ht : ∀ x, dm F.T F.S F.D SF l.b (lT l.hp x) (yc l.i l.hp l.e l.q) = l.r x := fun x => congrArg Prod.snd (h x)
 have g : F.Ok l := F.kl [] (by rw [h1.1]; rfl) (List.isEmpty_iff.1 h1.2) ht; exact @g
abbrev FC.YY {P : Program} (F : FC P) (rs : List RP) (t : NO (ar (F.ps.map some)) (Option (ak (bQ rs (ba F.ps))))) : s7 := jR F.ps rs (pL (ar (F.ps.map some)) t)
abbrev FC.Kn {P : Program} (F : FC P) (rs : List RP) (f : FuncId) (t : NO (ar (F.ps.map some)) (Option (ak (bQ rs (ba F.ps))))) : Prop := nN P f (F.YY rs t)
def FC.O2 {P : Program} (F : FC P) (rs : List RP) : Bool := F.fn.body.isSome && (O0 F.T F.D F.fn F.code F.fn.ntmps F.ps rs && !(F.fn.name == "runtime.NumGoroutine"))
theorem FC.GA {P : Program} {F : FC P} {rs : List RP} (h : F.O2 rs = true) : F.fn.body = some F.code ∧ O0 F.T F.D F.fn F.code F.fn.ntmps F.ps rs = true ∧ (F.fn.name == "runtime.NumGoroutine") = false := by
 unfold FC.O2 at h; rw [Bool.and_eq_true, Bool.and_eq_true, Bool.not_eq_true'] at h; obtain ⟨h1, h2, h3⟩ := h; refine ⟨?_, h2, h3⟩; obtain ⟨c, hc⟩ := Option.isSome_iff_exists.1 h1; unfold FC.code K8; rw [hc]
theorem FC.kf {P : Program} (F : FC P) {rs : List RP} {f : FuncId} {t : NO (ar (F.ps.map some)) (Option (ak (bQ rs (ba F.ps))))} (ls : List F.KL) (hf : P.funcs[f]? = some F.fn) (h1 : (F.O2 rs && E4 ls) = true) (h2 : cC F.code = AU ls)
   (ht : ∀ x, dm F.T F.S F.D (kE ls) F.code (start F.fn.ntmps F.ps x) (F.fin rs) = pL (ar (F.ps.map some)) t x) : F.Kn rs f t := by
 rw [Bool.and_eq_true] at h1; obtain ⟨hb, hc, hn⟩ := F.GA h1.1; exact NP F.t.hT F.t.hE F.t.hm (CG F.l) (D := F.D) (L := kE ls) hf hb hc hn (fun w0 mu y hs => Dn h1.2 h2 y w0 mu hs) ht
theorem FC.uR {P : Program} (F : FC P) {rs : List RP} {f : FuncId} {t : NO (ar (F.ps.map some)) (Option (ak (bQ rs (ba F.ps))))} (hf : P.funcs[f]? = some F.fn)
   (h : ∀ x, (F.O2 rs && (cC F.code).isEmpty, dm F.T F.S F.D SF F.code (start F.fn.ntmps F.ps x) (F.fin rs)) = (true, pL (ar (F.ps.map some)) t x)) : F.Kn rs f t := by
 have h1 := congrArg Prod.fst (h (qC _)); have h1 : (F.O2 rs && (cC F.code).isEmpty) = true := h1; rw [Bool.and_eq_true] at h1; exact F.kf [] hf (by rw [h1.1]; rfl) (List.isEmpty_iff.1 h1.2) fun x => congrArg Prod.snd (h x)
theorem FC.YZ {P : Program} (F : FC P) {rs : List RP} {f : FuncId} {t : NO (ar (F.ps.map some)) (Option (ak (bQ rs (ba F.ps))))} (hf : P.funcs[f]? = some F.fn) (h1 : (F.O2 rs && (cC F.code).isEmpty) = true)
   (ht : ∀ x, dm F.T F.S F.D SF F.code (start F.fn.ntmps F.ps x) (F.fin rs) = pL (ar (F.ps.map some)) t x) : F.Kn rs f t := by
 rw [Bool.and_eq_true] at h1; exact F.kf [] hf (by rw [h1.1]; rfl) (List.isEmpty_iff.1 h1.2) ht
theorem FC.Xt {P : Program} (F : FC P) {l : LD} (h1 : (CA F.D F.ps l.hp l.e l.q F.fn.ntmps l.b && (cC l.b).isEmpty) = true)
   (ht : ∀ x, dm F.T F.S F.D SF l.b (lT l.hp x) (yc l.i l.hp l.e l.q) = l.r x) : F.Ok l := by
 rw [Bool.and_eq_true] at h1; have g : F.Ok l := F.kl [] (by rw [h1.1]; rfl) (List.isEmpty_iff.1 h1.2) ht; exact @g
theorem FC.Y0 {P : Program} (F : FC P) {rs : List RP} {f : FuncId} {t : NO (ar (F.ps.map some)) (Option (ak (bQ rs (ba F.ps))))} (ls : List F.KL) (hf : P.funcs[f]? = some F.fn) (r : RT) (qs : List AP) (hq : F.ps = .val false [.shr r] :: qs) (h1 : (F.O2 rs && E4 ls) = true) (h2 : cC F.code = AU ls)
   (h4 : ∀ x, dm F.T F.S F.D (kE ls) F.code (aT (start F.fn.ntmps F.ps (hq ▸ (([] : List (ak r)), x))) (some 0) (.one .dg)) (F.fin rs) = pL (ar (F.ps.map some)) t (hq ▸ (([] : List (ak r)), x)))
   (h5 : ∀ x, dm F.T F.S F.D (kE ls) F.code (aT (start F.fn.ntmps F.ps (hq ▸ x)) (some 0) (.one (.nn r x.1))) (F.fin rs) = pL (ar (F.ps.map some)) t (hq ▸ x)) : F.Kn rs f t := by
 rw [Bool.and_eq_true] at h1; obtain ⟨hb, hc, hn⟩ := F.GA h1.1; obtain ⟨tt, l, D, fn, ps⟩ := F; simp only at hq; subst hq; exact E0 tt.hT tt.hE tt.hm (CG l) (D := D) (L := kE ls) hf hb hc hn (fun w0 mu y hs => Dn h1.2 h2 y w0 mu hs) h4 h5
theorem FC.Ut {P : Program} (F : FC P) (ls : List F.KL) {R : Type} {k : Ex → St → Option R} {b : Code} {hp : List (Option AP)} {g : ak (ar hp) → Option R} (h : ∀ x, dm F.T F.S F.D (kE ls) b (lT hp x) k = g x) : Us F.t.tr F.S F.D F.fn.ntmps F.ps (kE ls) k P b hp g :=
 Le F.t.hT F.t.hE F.t.hm (CG F.l) h
theorem FC.Y1 {P : Program} (F : FC P) (ls : List F.KL) {rs : List RP} {f : FuncId} {t : NO (ar (F.ps.map some)) (Option (ak (bQ rs (ba F.ps))))} (hf : P.funcs[f]? = some F.fn) (m : Nat) {b' : Code} {jd : List (Option AP)} {g' : ak (ar jd) → Option (ak (bQ rs (ba F.ps)))} (hs : Us F.t.tr F.S F.D F.fn.ntmps F.ps (kE ls) (F.fin rs) P b' jd g')
   (h1 : (F.O2 rs && (E4 ls && fi F.ps jd)) = true) (h2 : cC F.code = AU ls) (hr : yV m F.code = b') (ht : ∀ x, E1 F.T F.S F.D (kE ls) m F.code (start F.fn.ntmps F.ps x) (fun st => (AG st jd).bind g') (F.fin rs) = pL (ar (F.ps.map some)) t x) : F.Kn rs f t := by
 rw [Bool.and_eq_true, Bool.and_eq_true] at h1; obtain ⟨hb, hc, hn⟩ := F.GA h1.1; exact E3 F.t.hT F.t.hE F.t.hm (CG F.l) (D := F.D) (L := kE ls) hf hb hc hn (fun w0 mu y hs => Dn h1.2.1 h2 y w0 mu hs) hr h1.2.2 ht hs
def sp : List (Nat × AP) → Nat → List (Option AP)
 | [], k => nn k
 | (g, p) :: l, k => nn g ++ some p :: sp l k
abbrev vl (l : List OP) : AP := .val false l
abbrev va (l : List OP) : AP := .val true l
abbrev Pl.a (i : Nat) (p : Pl) : Pl := .op i .any p
abbrev Pl.t (i : Nat) (p : Pl) : Pl := .op i .take p
abbrev Pl.o (i : Nat) (p : Pl) : Pl := .op i .one p
abbrev Pl.l (i : Nat) (p : Pl) : Pl := .op i .last p
def dr (i : Nat) (p : Pl) (D : jb := lD) : jb := fun id => bif Nat.beq id i then p else D id
end
end Go.TM
