/- A machine over trees: an evaluator of the code, and that what it finds is so; part 4. -/
import Derived.Test.YtiljcjnnhkidbaaTm3
import Derived.Laws.StructEq
import Derived.ChangeKeysEq
set_option linter.unusedSimpArgs false
set_option linter.unusedVariables false
namespace Go.TM
open Go Go.RowKit Go.ChangeShapes
mutual
theorem Ty.eq?_self : (t : Ty) → Ty.eq? t t = some ⟨rfl⟩
 | .int k => by simp [Ty.eq?]
 | .bool => rfl
 | .str => rfl
 | .sl r => by simp [Ty.eq?, RT.eq?_self r]
theorem RT.eq?_self : (r : RT) → RT.eq? r r = some ⟨rfl⟩
 | .nil => rfl
 | .cons t r => by simp [RT.eq?, Ty.eq?_self t, RT.eq?_self r]
end
theorem castL_self (r : RT) (xs : List (denR r)) : castL r xs = some xs := by
 unfold castL; rw [RT.eq?_self]
theorem castOs_cons {p : OP} {ps : List OP} {t : RT} {o : OV} {os : List OV} {y : denR t} {x : den p.ty} {z : denR (opsRT ps t)} (h1 : castO p o = some x) (h2 : castOs ps t os y = some z) : castOs (p :: ps) t (o :: os) y = some ((x, z) : denR (opsRT (p :: ps) t)) := by
 unfold castOs; rw [h1, h2]; rfl
theorem castO_int {k : IntKind} {n : Int} : castO (.int k) (.int k n) = some n := if_pos rfl
def shrOps : RT → List OP
 | .nil => []
 | .cons (.int k) r => .int k :: shrOps r
 | .cons .bool r => .bool :: shrOps r
 | .cons .str r => .str :: shrOps r
 | .cons (.sl q) r => .shr q :: shrOps r
def Cz.free : Cz := { bx := fun _ => 0, lc := fun _ _ => .nil, own := fun _ => none }
theorem hold_shr {w : World} {f : Nat → Lb} : (r : RT) → (t : RT) → (j : Nat) → (vs : List Value) → (x : denR r) → (y : denR t) → RepVs w (fun _ => True) r vs x → SzR r x →
   ∃ z : denR (opsRT (shrOps r) t), HoldL Cz.free w f j (opsOV (shrOps r) t z).1 vs ∧ castOs (shrOps r) t (opsOV (shrOps r) t z).1 y = some z ∧ (SzR t y → SzR (opsRT (shrOps r) t) z)
 | .nil, t, j, vs, x, y, h, _ => by
   have : vs = [] := h; subst this; exact ⟨y, rfl, rfl, id⟩
 | .cons ty r, t, j, vs, x, y, h, hs => by
   obtain ⟨v, l, rfl, h1, h2⟩ := h; obtain ⟨s1, s2⟩ := szCons.1 hs; obtain ⟨z, g1, g2, g3⟩ := hold_shr (f := f) r t (j + 1) l x.2 y h2 s2
   cases ty with
   | int k =>
     refine ⟨(x.1, z), ⟨l, by rw [repInt.1 h1], g1⟩, ?_, fun hy => szCons.2 ⟨s1, g3 hy⟩⟩; exact castOs_cons (p := .int k) (o := .int k x.1) (castO_int) g2
   | bool =>
     refine ⟨(x.1, z), ⟨l, by rw [repBool.1 h1], g1⟩, ?_, fun hy => szCons.2 ⟨s1, g3 hy⟩⟩; exact castOs_cons (p := .bool) (o := .bool x.1) (rfl) g2
   | str =>
     refine ⟨(x.1, z), ⟨l, by rw [repStr.1 h1], g1⟩, ?_, fun hy => szCons.2 ⟨s1, g3 hy⟩⟩; exact castOs_cons (p := .str) (o := .str x.1) (rfl) g2
   | sl q =>
     refine ⟨(x.1, z), ⟨v, l, rfl, RepTy.stays ⟨Nat.le_refl _, fun _ _ _ => rfl, fun _ _ _ => rfl⟩ _ _ _ h1, g1⟩, ?_, fun hy => szCons.2 ⟨s1, g3 hy⟩⟩; exact castOs_cons (p := .shr q) (o := .shr q x.1) (castL_self q x.1) g2
def OP.same : OP → OP → Bool
 | .int k, .int l => decide (k = l)
 | .bool, .bool => true
 | .str, .str => true
 | .shr r, .shr s => (RT.eq? r s).isSome
 | _, _ => false
theorem OP.same_ok {p q : OP} (h : p.same q = true) : p = q := by
 cases p <;> cases q <;> simp [OP.same] at h
 · rw [h]
 · rfl
 · rfl
 · rename_i r s; obtain ⟨⟨e⟩, _⟩ := Option.isSome_iff_exists.1 h; rw [e]
def opsSame : List OP → List OP → Bool
 | [], [] => true
 | p :: l, q :: m => p.same q && opsSame l m
 | _, _ => false
theorem opsSame_ok : (l m : List OP) → opsSame l m = true → l = m
 | [], [], _ => rfl
 | p :: l, q :: m, h => by
   unfold opsSame at h; rw [Bool.and_eq_true] at h; rw [OP.same_ok h.1, opsSame_ok l m h.2]
 | [], _ :: _, h => by simp [opsSame] at h
 | _ :: _, [], h => by simp [opsSame] at h
def psB (P : Program) : List TypeId → List AP → Bool
 | [], [] => true
 | t :: ts, .val agg os :: ps => (match rowB P 30 t with
     | some r => opsSame (shrOps r) os
     | none => false) && ((match P.underlying t with | some (.struct _) => agg | _ => !agg) && (P.readableRec t && (Nat.blt t P.types.size && psB P ts ps)))
 | _, _ => false
theorem one_cell {P : Program} {w : World} {r : Reach} {b : Nat} {t : TypeId} {v : Value} {rt : RT} (hn : rowB P 30 t = some rt) (hs : ∀ fs, P.underlying t ≠ some (.struct fs)) (h : Value.okWide P w r b t v) : v.cells.toList = [v] := by
 cases hu : P.underlying t with
 | none => simp [rowB, hu] at hn
 | some d =>
   cases v <;> try rfl
   rename_i cs
   exfalso
   cases d <;> first | exact hs _ hu | (simp [rowB, hu] at hn; done) | (simp [Value.okWide, hu, Cell.okWide, Cell.ok] at h)
theorem args_hold {H : Type} {enc : TypeId × Value → H} {P : Program} {w : World} {lc : Nat → Nat → Loc} : (ts : List TypeId) → (ps : List AP) → psB P ts ps = true → (i : Nat) → (vs : List Value) → (ds : List (DataW H)) → (p : List MemPlace) →
   (∀ (j : Nat) t v, ts[j]? = some t → vs[j]? = some v → ∃ b, Value.okWide P w .any b t v) → DataW.TrodAll enc P w 0 (fun _ => true) true ts vs ds p →
   ∃ (x : denR (headRT (ps.map some))) (avs : List AV), castAs ps avs = some x ∧ HoldAs Cz.free w lc i avs vs ∧ SzR (headRT (ps.map some)) x
 | [], [], _, i, vs, ds, p, _, hA => by
   obtain ⟨rfl, _, _⟩ := trodAll_nil hA; exact ⟨(), [], rfl, rfl, szNil _⟩
 | [], _ :: _, hb, _, _, _, _, _, _ => by simp [psB] at hb
 | t :: ts, [], hb, _, _, _, _, _, _ => by simp [psB] at hb
 | t :: ts, .io _ _ :: _, hb, _, _, _, _, _, _ => by simp [psB] at hb
 | t :: ts, .box _ _ :: _, hb, _, _, _, _, _, _ => by simp [psB] at hb
 | t :: ts, .lend _ :: _, hb, _, _, _, _, _, _ => by simp [psB] at hb
 | t :: ts, .val agg os :: ps, hb, i, vs, ds, p, hval, hA => by
   obtain ⟨v, vs', d, ds', p', q', rfl, rfl, rfl, h1, h2⟩ := trodAll_cons hA; unfold psB at hb; rw [Bool.and_eq_true, Bool.and_eq_true, Bool.and_eq_true, Bool.and_eq_true] at hb; obtain ⟨b1, b2, _, _, b5⟩ := hb; obtain ⟨y, avs, g1, g2, g3⟩ := args_hold (lc := lc) ts ps b5 (i + 1) vs' ds' q' (fun j t v ht hv => hval (j + 1) t v (by simpa using ht) (by simpa using hv)) h2; obtain ⟨b0, hok⟩ := hval 0 t v rfl rfl
   cases hr : rowB P 30 t with
   | none => rw [hr] at b1; cases b1
   | some r =>
     rw [hr] at b1; have hos := opsSame_ok _ _ b1; subst hos; obtain ⟨fuel, hd⟩ := h1; obtain ⟨x, hx1, hx2⟩ := rowB_ok 30 hr hd; obtain ⟨z, k1, k2, k3⟩ := hold_shr (f := .pend i) r (headRT (ps.map some)) 0 v.cells.toList x y hx1 hx2
     cases agg with
     | false =>
       have hs : ∀ fs, P.underlying t ≠ some (.struct fs) := by
         intro fs e; rw [e] at b2
         cases b2
       rw [one_cell hr hs hok] at k1; refine ⟨z, .val false (opsOV (shrOps r) (headRT (ps.map some)) z).1 :: avs, ?_, ⟨v, vs', rfl, k1, g2⟩, k3 g3⟩; show (match castAs ps avs with | some y => castA (.val false (shrOps r)) (headRT (ps.map some)) (.val false _) y | none => none) = _; rw [g1]; exact k2
     | true =>
       obtain ⟨fs, hu⟩ : ∃ fs, P.underlying t = some (.struct fs) := by
         cases hu : P.underlying t with
         | none => rw [hu] at b2; cases b2
         | some d =>
           rw [hu] at b2
           cases d <;> first | exact ⟨_, rfl⟩ | cases b2
       obtain ⟨cs, rfl, _⟩ : ∃ cs, v = .agg cs ∧ True := by
         unfold Value.okWide at hok; rw [hu] at hok; obtain ⟨cs, e, _⟩ := hok; exact ⟨cs, e, trivial⟩
       refine ⟨z, .val true (opsOV (shrOps r) (headRT (ps.map some)) z).1 :: avs, ?_, ⟨.agg cs, vs', rfl, ⟨cs, rfl, k1⟩, g2⟩, k3 g3⟩; show (match castAs ps avs with | some y => castA (.val true (shrOps r)) (headRT (ps.map some)) (.val true _) y | none => none) = _; rw [g1]; exact k2
theorem args_stay {H : Type} {enc : TypeId × Value → H} {P : Program} (hl : laidOutB P = true) {W W' : World} (hb : Below W.heap.size W W') : (ts : List TypeId) → (ps : List AP) → psB P ts ps = true → (vs : List Value) → (ds : List (DataW H)) → (p : List MemPlace) → (∀ x ∈ p, x.block < W.heap.size) →
   DataW.TrodAll enc P W 0 (fun _ => true) true ts vs ds p → DataW.TrodAll enc P W' 0 (fun b => decide (b < W.heap.size)) true ts vs ds p
 | [], [], _, vs, ds, p, _, hA => by
   obtain ⟨rfl, rfl, rfl⟩ := trodAll_nil hA; exact trodAll_mk0
 | [], _ :: _, hb, _, _, _, _, _ => by simp [psB] at hb
 | t :: ts, [], hb, _, _, _, _, _ => by simp [psB] at hb
 | t :: ts, .io _ _ :: _, hb, _, _, _, _, _ => by simp [psB] at hb
 | t :: ts, .box _ _ :: _, hb, _, _, _, _, _ => by simp [psB] at hb
 | t :: ts, .lend _ :: _, hb, _, _, _, _, _ => by simp [psB] at hb
 | t :: ts, .val agg os :: ps, hp, vs, ds, p, hlt, hA => by
   obtain ⟨v, vs', d, ds', p', q', rfl, rfl, rfl, h1, h2⟩ := trodAll_cons hA; unfold psB at hp; rw [Bool.and_eq_true, Bool.and_eq_true, Bool.and_eq_true, Bool.and_eq_true] at hp; obtain ⟨_, _, b3, b4, b5⟩ := hp; exact trodAll_cons_mk (Below.trod hl b3 (Nat.le_of_ble_eq_true b4) h1 hb (fun x hx => hlt x (List.mem_append_left _ hx))) (args_stay hl hb ts ps b5 vs' ds' q' (fun x hx => hlt x (List.mem_append_right _ hx)) h2)
theorem law_calls {H : Type} {enc : TypeId × Value → H} {P : Program} (hl : laidOutB P = true) {f : FuncId} {ps : List AP} {s : Nat} {t : denR (headRT (ps.map some)) → Option (denR (resRT [{ src := .tmp s, agg := false, ps := [.bool] }] (extRT ps)))}
   (hk : Known P f (semOf ps [{ src := .tmp s, agg := false, ps := [.bool] }] t)) {ts : List TypeId} (hps : psB P ts ps = true) (hlaw : ∀ x, SzR (headRT (ps.map some)) x → ∃ y, t x = some y ∧ y.1 = true)
   {W : World} {base : Nat} {args : Array Value} {ds : List (DataW H)} {p : List MemPlace} (hval : ∀ (j : Nat) t v, ts[j]? = some t → args[j]? = some v → Value.okWide P W .any base t v)
   (hA : DataW.TrodAll enc P W 0 (fun _ => true) true ts args.toList ds p) (hlt : ∀ x ∈ p, x.block < W.heap.size) :
   Calls P f args W fun e W' => e = .returned (.bool true) ∧ Below W.heap.size W W' ∧ DataW.TrodAll enc P W' 0 (fun b => decide (b < W.heap.size)) true ts args.toList ds p := by
 obtain ⟨x, avs, h1, h2, h3⟩ := args_hold (lc := fun _ _ => .nil) ts ps hps 0 args.toList ds p (fun j t v ht hv => ⟨base, hval j t v ht (by rwa [Array.getElem?_toList] at hv)⟩) hA; obtain ⟨y, hy, hy1⟩ := hlaw x h3
 let μ : Mu := { m := fun _ => False, ok := fun _ => True, an := [] }
 have hH : Handed Cz.free W μ := {
   m := fun b => ⟨fun h => h.elim, fun ⟨l, h, _⟩ => by cases h⟩
   ok := fun b => ⟨fun _ => rfl, fun _ => trivial⟩
   lt := fun b l h => by cases h
   lb := fun b l h => by cases h }
 have hs : semOf ps [{ src := .tmp s, agg := false, ps := [.bool] }] t avs = some { r := resRT [{ src := .tmp s, agg := false, ps := [.bool] }] (extRT ps), o := t x, res := fun y => { outs := (outsOf [{ src := .tmp s, agg := false, ps := [.bool] }] (extRT ps) y).1, exts := extsOf ps (outsOf [{ src := .tmp s, agg := false, ps := [.bool] }] (extRT ps) y).2 } } := by
   unfold semOf; rw [h1]
 refine (hk.ok Cz.free W μ (fun _ _ => .nil) avs args _ y hH h2 hs hy).mono fun e W' ⟨v, he, c', hb, hV, _⟩ => ?_
 have hbel : Below W.heap.size W W' := ⟨hb.kept.1, hb.kept.2.1, hb.kept.2.2.1, hb.kept.2.2.2, fun k hk => hb.old k hk (fun h => h.elim)⟩; have hv : v = .bool true := by
   have hV : HoldV c' W' [.one (.bool y.1)] v := hV; rcases hV with ⟨r, e1, g⟩ | ⟨g, _⟩
   · simp only [List.cons.injEq, and_true] at e1; subst e1; obtain ⟨v', l, e2, g2, _⟩ := g; simp only [List.cons.injEq] at e2; obtain ⟨e2, _⟩ := e2; obtain ⟨l', g3, _⟩ := g2; simp only [List.cons.injEq] at g3; rw [e2, g3.1, hy1]
   · simp at g
 exact ⟨by rw [he, hv], hbel, args_stay hl hbel ts ps hps args.toList ds p hlt hA⟩
end Go.TM
namespace Go.TM
open Go
theorem wrap_id {a : Int} (h1 : -9223372036854775808 ≤ a) (h2 : a < 9223372036854775808) : IntKind.i64.wrap a = a := by
 rw [IntKind.wrap_i64]; omega
theorem loop_ind {X E : Type} {round : X → Option (Sum X E)} {n : Nat} (st : Nat → X) (g : Nat → Option E) (hend : ∃ e, round (st n) = some (.inr e) ∧ g n = some e)
   (hstep : ∀ k, k < n → (∃ e, round (st k) = some (.inr e) ∧ g k = some e) ∨ (round (st k) = some (.inl (st (k + 1))) ∧ g k = g (k + 1))) : ∀ k, k ≤ n → loopV round (st k) = g k := by
 have key : ∀ d k, k + d = n → loopV round (st k) = g k := by
   intro d
   induction d with
   | zero =>
     intro k hk; have : k = n := by omega
     subst this; obtain ⟨e, h1, h2⟩ := hend; rw [loopV_eq, h1, h2]
   | succ d ih =>
     intro k hk; rcases hstep k (by omega) with ⟨e, h1, h2⟩ | ⟨h1, h2⟩
     · rw [loopV_eq, h1, h2]
     · rw [loopV_eq, h1, h2]; exact ih (k + 1) (by omega)
 intro k hk; exact key (n - k) k (by omega)
theorem loop_run {X E : Type} {round : X → Option (Sum X E)} (n : Nat) (st : Nat → X) {e : E} (hend : round (st n) = some (.inr e))
   (hstep : ∀ k, k < n → round (st k) = some (.inl (st (k + 1)))) : loopV round (st 0) = some e :=
 loop_ind st (fun _ => some e) ⟨e, hend, rfl⟩ (fun k hk => .inr ⟨hstep k hk, rfl⟩) 0 (Nat.zero_le _)
theorem loop_inv {X E : Type} {round : X → Option (Sum X E)} (n : Nat) (I : Nat → X → Prop) (Q : E → Prop) (hend : ∀ x, I n x → ∃ e, round x = some (.inr e) ∧ Q e)
   (hstep : ∀ k x, k < n → I k x → (∃ e, round x = some (.inr e) ∧ Q e) ∨ (∃ y, round x = some (.inl y) ∧ I (k + 1) y)) {x : X} (h : I 0 x) : ∃ e, loopV round x = some e ∧ Q e := by
 have key : ∀ d k x, k + d = n → I k x → ∃ e, loopV round x = some e ∧ Q e := by
   intro d
   induction d with
   | zero =>
     intro k x hk hI; have : k = n := by omega
     subst this; obtain ⟨e, h1, h2⟩ := hend x hI; exact ⟨e, by rw [loopV_eq, h1], h2⟩
   | succ d ih =>
     intro k x hk hI; rcases hstep k x (by omega) hI with ⟨e, h1, h2⟩ | ⟨y, h1, h2⟩
     · exact ⟨e, by rw [loopV_eq, h1], h2⟩
     · obtain ⟨e, h3, h4⟩ := ih (k + 1) y (by omega) h2; exact ⟨e, by rw [loopV_eq, h1]; exact h3, h4⟩
 exact key n 0 x (by omega) h
theorem outK_inl {A B C : Type} {a : A} {f : A → Option C} {g : B → Option C} : outK (some (.inl a)) f g = f a := rfl
theorem dec_true {p : Prop} [Decidable p] (h : p) : decide p = true := decide_eq_true h
theorem dec_false {p : Prop} [Decidable p] (h : ¬ p) : decide p = false := decide_eq_false h
theorem toNat_nat (k : Nat) : Int.toNat ((k : Nat) : Int) = k := rfl
theorem blt_true {a b : Nat} (h : a < b) : Nat.blt a b = true := Nat.ble_eq_true_of_le h
theorem ble_true {a b : Nat} (h : a ≤ b) : Nat.ble a b = true := Nat.ble_eq_true_of_le h
theorem zero_le_nat (k : Nat) : decide ((0 : Int) ≤ ((k : Nat) : Int)) = true := dec_true (by omega)
theorem lt_nat_true {k n : Nat} (h : k < n) : decide (((k : Nat) : Int) < ((n : Nat) : Int)) = true := dec_true (by omega)
theorem lt_nat_irr (n : Nat) : decide (((n : Nat) : Int) < ((n : Nat) : Int)) = false := dec_false (by omega)
theorem succ_wrap {k : Nat} (h : k < 4611686018427387904) : IntKind.i64.wrap (((k : Nat) : Int) + (1 : Int)) = (((k + 1 : Nat)) : Int) := by
 rw [wrap_id] <;> omega
theorem bytes_loop (bs : ByteArray) : ∀ (d i : Nat) (r : List UInt8), bs.size - i = d → ByteArray.toList.loop bs i r = r.reverse ++ bs.data.toList.drop i
 | 0, i, r, h => by
   unfold ByteArray.toList.loop; rw [if_neg (by omega)]; have : bs.data.toList.drop i = [] := List.drop_of_length_le (by
     have : bs.data.toList.length = bs.size := Array.length_toList; omega)
   rw [this, List.append_nil]
 | d + 1, i, r, h => by
   unfold ByteArray.toList.loop; have hlt : i < bs.size := by omega
   rw [if_pos hlt, bytes_loop bs d (i + 1) _ (by omega)]; have hlt2 : i < bs.data.toList.length := by
     have : bs.data.toList.length = bs.size := Array.length_toList; omega
   rw [List.reverse_cons, List.append_assoc, List.drop_eq_getElem_cons hlt2]
   congr 2
   simp [ByteArray.get!, hlt]
theorem bytes_list (bs : ByteArray) : bs.toList = bs.data.toList := by
 unfold ByteArray.toList; rw [bytes_loop bs _ 0 [] rfl]; simp
theorem strEq_iff {a b : ByteArray} : strEq a b = true ↔ a = b := by
 unfold strEq; rw [beq_iff_eq]
 constructor
 · intro h; rw [bytes_list, bytes_list] at h; obtain ⟨⟨x⟩⟩ := a; obtain ⟨⟨y⟩⟩ := b; exact congrArg (fun l => ByteArray.mk ⟨l⟩) h
 · intro h; rw [h]
theorem strEq_self (a : ByteArray) : strEq a a = true := strEq_iff.2 rfl
def wl {α : Type} (f : α → Nat) (xs : List α) : Nat := xs.foldr (fun x n => f x + n) 0
theorem wl_cons {α : Type} (f : α → Nat) (x : α) (xs : List α) : wl f (x :: xs) = f x + wl f xs := rfl
theorem wl_app {α : Type} (f : α → Nat) (xs ys : List α) : wl f (xs ++ ys) = wl f xs + wl f ys := by
 induction xs with
 | nil => simp [wl]
 | cons x xs ih =>
   show f x + wl f (xs ++ ys) = f x + wl f xs + wl f ys; rw [ih]; omega
theorem wl_zero {α : Type} (f : α → Nat) (h : ∀ x, f x = 0) (xs : List α) : wl f xs = 0 := by
 induction xs with
 | nil => rfl
 | cons y xs ih => show f y + wl f xs = 0; rw [h, ih]
theorem loop_two {X Y E F : Type} {r1 : X → Option (Sum X E)} {r2 : Y → Option (Sum Y F)} (n : Nat) (R : Nat → X → Y → Prop) (Q : E → F → Prop)
   (hstep : ∀ k x y, k ≤ n → R k x y → (∃ e f, r1 x = some (.inr e) ∧ r2 y = some (.inr f) ∧ Q e f) ∨ (k < n ∧ ∃ x' y', r1 x = some (.inl x') ∧ r2 y = some (.inl y') ∧ R (k + 1) x' y')) {x : X} {y : Y} (h : R 0 x y) :
   ∃ e f, loopV r1 x = some e ∧ loopV r2 y = some f ∧ Q e f := by
 have key : ∀ d k x y, k + d = n → R k x y → ∃ e f, loopV r1 x = some e ∧ loopV r2 y = some f ∧ Q e f := by
   intro d
   induction d with
   | zero =>
     intro k x y hk hR; rcases hstep k x y (by omega) hR with ⟨e, f, h1, h2, h3⟩ | ⟨hlt, _⟩
     · exact ⟨e, f, by rw [loopV_eq, h1], by rw [loopV_eq, h2], h3⟩
     · omega
   | succ d ih =>
     intro k x y hk hR; rcases hstep k x y (by omega) hR with ⟨e, f, h1, h2, h3⟩ | ⟨_, x', y', h1, h2, h3⟩
     · exact ⟨e, f, by rw [loopV_eq, h1], by rw [loopV_eq, h2], h3⟩
     · obtain ⟨e, f, g1, g2, g3⟩ := ih (k + 1) x' y' (by omega) h3; exact ⟨e, f, by rw [loopV_eq, h1]; exact g1, by rw [loopV_eq, h2]; exact g2, g3⟩
 exact key n 0 x y (by omega) h
end Go.TM
namespace Go.TM
open Go Go.RowKit
def fieldsEqB (P : Program) : Nat → RT → List Field → Bool
 | _, .nil, [] => true
 | off, .cons t r, f :: fs => Nat.beq f.offset off && ((f.name != "_") && (P.plainKey f.type && (kindB P f.type t && fieldsEqB P (off + 1) r fs)))
 | _, _, _ => false
def structEqB (P : Program) (t : TypeId) (r : RT) : Bool :=
 match P.underlying t with
 | some (.struct fs) => !P.stoodInHeld t && (!P.eqGuardType P.depth t && fieldsEqB P 0 r fs.toList)
 | _ => false
def recEq (P : Program) (t : Nat) (r : Rec) : Bool := !r.eq || (match r.row with | some q => structEqB P t q | none => false)
theorem cell_equal {P : Program} {c : Cz} {st : St} {w w' : World} {t : TypeId} {ty : Ty} {d : Nat} {a b : CV} {x y : Value} {r : Bool} {q : RT} {l : List CV} (hk : kindB P t ty = true) (hf : fitsR (.cons ty q) (a :: l) = true) (h : cellEq a b = some r) (hx : RelC c st w a x) (hy : RelC c st w b y) :
   (Op.equalIn (d + 1) t x y).run P w' = .ok r w' ∧ fitsR q l = true := by
 cases ty with
 | sl _ => cases a <;> simp [fitsR] at hf
 | int k =>
   obtain ⟨e, he, h2⟩ := optIs_ok hk
   cases a <;> try (simp [fitsR] at hf; done)
   rename_i k1 n; simp only [fitsR, Bool.and_eq_true, decide_eq_true_eq] at hf
   cases b <;> try (simp [cellEq] at h; done)
   rename_i k2 m; simp only [cellEq] at h
   split at h
   · rename_i hkk; subst hkk
     cases h
     cases e <;> simp at h2
     have hx : x = .int k1 n := hx; have hy : y = .int k1 m := hy; subst hx hy; refine ⟨?_, hf.2⟩; rw [run_equalIn_int w' d t k1 _ n m he]
     congr 1
   · cases h
 | bool =>
   obtain ⟨e, he, h2⟩ := optIs_ok hk
   cases a <;> try (simp [fitsR] at hf; done)
   cases b <;> try (simp [cellEq] at h; done)
   rename_i p q'; simp only [cellEq, Option.some.injEq] at h; subst h
   cases e <;> simp at h2
   have hx : x = .bool p := hx; have hy : y = .bool q' := hy; subst hx hy; exact ⟨run_equalIn_bool' w' d t p q' he, hf⟩
 | str =>
   obtain ⟨e, he, h2⟩ := optIs_ok hk
   cases a <;> try (simp [fitsR] at hf; done)
   cases b <;> try (simp [cellEq] at h; done)
   rename_i p q'; simp only [cellEq, Option.some.injEq] at h; subst h
   cases e <;> simp at h2
   have hx : x = .string p := hx; have hy : y = .string q' := hy; subst hx hy; exact ⟨run_equalIn_string w' d t p q' he, hf⟩
theorem fields_equal {P : Program} {c : Cz} {st : St} {w w' : World} {d : Nat} {us vs : Array Value} : (fs : List Field) → (off : Nat) → (q : RT) → (l m : List CV) → {b : Bool} → fieldsEqB P off q fs = true → fitsR q l = true → cellsEq l m = some b →
   RelL c st w l (us.toList.drop off) → RelL c st w m (vs.toList.drop off) → (Op.eqFields (d + 1) us vs fs).run P w' = .ok b w'
 | [], off, q, l, m, b, hf, hfit, hc, hl, hm => by
   cases q with
   | cons t r => cases t <;> simp [fieldsEqB] at hf
   | nil =>
     cases l with
     | cons _ _ => simp [fitsR] at hfit
     | nil => cases m with
       | cons _ _ => simp [cellsEq] at hc
       | nil =>
         simp only [cellsEq, Option.some.injEq] at hc; subst hc; simp [Op.eqFields]
 | f :: fs, off, q, l, m, b, hf, hfit, hc, hl, hm => by
   cases q with
   | nil => simp [fieldsEqB] at hf
   | cons t r =>
     unfold fieldsEqB at hf; rw [Bool.and_eq_true, Bool.and_eq_true, Bool.and_eq_true, Bool.and_eq_true] at hf; obtain ⟨h1, h2, h3, h4, h5⟩ := hf; have h1 := Nat.eq_of_beq_eq_true h1
     cases l with
     | nil => cases t <;> simp [fitsR] at hfit
     | cons x l => cases m with
       | nil => simp [cellsEq] at hc
       | cons y m =>
         simp only [cellsEq] at hc
         cases he : cellEq x y with
         | none => simp [he] at hc
         | some b1 =>
           cases hes : cellsEq l m with
           | none => simp [he, hes] at hc
           | some b2 =>
             simp only [he, hes, Option.some.injEq] at hc; subst hc; have hul : off < us.size := by
               have := hl.1; simp at this; omega
             have hvl : off < vs.size := by
               have := hm.1; simp at this; omega
             have hdu : us.toList.drop off = us[off] :: us.toList.drop (off + 1) := by
               have : off < us.toList.length := by simpa using hul
               rw [List.drop_eq_getElem_cons this]; simp
             have hdv : vs.toList.drop off = vs[off] :: vs.toList.drop (off + 1) := by
               have : off < vs.toList.length := by simpa using hvl
               rw [List.drop_eq_getElem_cons this]; simp
             rw [hdu] at hl; rw [hdv] at hm; have rx := hl.2 0 x us[off] rfl rfl; have ry := hm.2 0 y vs[off] rfl rfl; obtain ⟨k1, k2⟩ := cell_equal (w' := w') (d := d) h4 hfit he rx ry; have rl : RelL c st w l (us.toList.drop (off + 1)) := ⟨by have := hl.1; simpa using this, fun i a v ha hv => hl.2 (i + 1) a v (by simpa using ha) (by simpa using hv)⟩; have rm : RelL c st w m (vs.toList.drop (off + 1)) := ⟨by have := hm.1; simpa using this, fun i a v ha hv => hm.2 (i + 1) a v (by simpa using ha) (by simpa using hv)⟩; have ih := fields_equal (w' := w') (d := d) fs (off + 1) r l m h5 k2 hes rl rm; unfold Op.eqFields; rw [if_pos (by simpa using h2)]; have p1 : (part f.type us f.offset).run P w' = .ok us[off] w' := run_part_plain w' h3 (by rw [h1]; exact Array.getElem?_eq_getElem hul); have p2 : (part f.type vs f.offset).run P w' = .ok vs[off] w' := run_part_plain w' h3 (by rw [h1]; exact Array.getElem?_eq_getElem hvl); simp only [Sem.run_bind, p1, p2, k1, Result.andThen_ok]
             cases b1
             · simp
             · simp [ih]
theorem eqs_ok {P : Program} {tr : Tr} (h : tr.all (recEq P) = true) : EqOk P (tabOf tr) := by
 intro t ht c st w l m us vs b op ox oy hfit hc hl hm w'; have ht : (match tr.find t with | some r => r.eq | none => false) = true := ht
 cases hf : tr.find t with
 | none => rw [hf] at ht; cases ht
 | some r =>
   rw [hf] at ht; have ht : r.eq = true := ht; have h1 := Tr.all_find tr h hf; unfold recEq at h1; rw [ht, Bool.not_true, Bool.false_or] at h1; unfold Tab.fits at hfit; have hrow : (tabOf tr).row t = r.row := by show (match tr.find t with | some r => r.row | none => none) = _; rw [hf]
   rw [hrow] at hfit
   cases hq : r.row with
   | none => rw [hq] at h1; cases h1
   | some q =>
     rw [hq] at h1 hfit; have h1 : structEqB P t q = true := h1; have hfit : fitsR q l = true := hfit; unfold structEqB at h1
     split at h1
     · rename_i fs hu; rw [Bool.and_eq_true, Bool.and_eq_true, Bool.not_eq_true', Bool.not_eq_true'] at h1; have hfo : P.fieldsOf t = fs := by unfold Program.fieldsOf; rw [hu]
       refine ⟨run_eqGuard_agg w' op t ox oy us vs h1.2.1, ?_⟩; show (Op.equalIn (9999 + 1) t (.agg us) (.agg vs)).run P w' = .ok b w'; rw [run_equalIn_struct w' 9999 t us vs (by rw [hfo]; exact hu) h1.1, hfo]; exact fields_equal (d := 9998) fs.toList 0 q l m h1.2.2 hfit hc (by simpa using hl) (by simpa using hm)
     · cases h1
end Go.TM
namespace Go.TM
open Go Go.RowKit
def startNil (n : Nat) (ps : List AP) (x : denR (headRT (ps.map some))) : St := setV (start n ps x) (some 0) (.one .nils)
def startNn (n : Nat) (r : RT) (xs : List (denR r)) (ps : List AP) (x : denR (headRT (ps.map some))) : St := setV (start n ps x) (some 0) (.one (.nn r xs))
theorem fn_auto_nil {P : Program} {tr : Tr} (hT : tr.all (recOk P) = true) (hE : EqOk P (tabOf tr)) (hm : P.follows .mixedOrders = true) {S : Sems} (hS : SemsOk P S) {D : Draws} {f : FuncId} {fn : Func} {code : Code} {n : Nat} {r : RT} {qs : List AP} {rs : List RP}
   {L : Loops (denR (resRT rs (extRT (.val false [.shr r] :: qs))))} {t : denR (headRT ((AP.val false [.shr r] :: qs).map some)) → Option (denR (resRT rs (extRT (.val false [.shr r] :: qs))))}
   (hf : P.funcs[f]? = some fn) (hb : fn.body = some code) (hchk : fnB (tabOf tr) D fn code n (.val false [.shr r] :: qs) rs = true) (hname : (fn.name == "runtime.NumGoroutine") = false)
   (hL : ∀ (w0 : World) (mu : Mu) (y : denR (resRT rs (extRT (.val false [.shr r] :: qs)))), AnShape (.val false [.shr r] :: qs) mu → ∀ p ∈ loopsIn code, LoopAt P w0 mu n L y p.1 p.2)
   (hnil : ∀ z, codeK (tabOf tr) S D L code (startNil n (.val false [.shr r] :: qs) (([] : List (denR r)), z)) (finK rs (.val false [.shr r] :: qs)) = t (([] : List (denR r)), z))
   (hnn : ∀ x, codeK (tabOf tr) S D L code (startNn n r x.1 (.val false [.shr r] :: qs) x) (finK rs (.val false [.shr r] :: qs)) = t x) : Known P f (semOf (.val false [.shr r] :: qs) rs t) := by
 unfold fnB at hchk; rw [Bool.and_eq_true, Bool.and_eq_true, Bool.and_eq_true, Bool.and_eq_true] at hchk; obtain ⟨h1, h2, h3, h4, h5⟩ := hchk; refine ⟨fn_ok_at (tab_ok hT) hE hS hf hb (Nat.eq_of_beq_eq_true h1) (Nat.le_of_ble_eq_true h2) h3 (fun tm => resB_ok tm _ _ h4) (fun w0 mu y hs => codeLoops_of code (hL w0 mu y hs))
   (fun w0 mu => drawSound (tab_ok hT) hE hm (opSound (tab_ok hT) hE hS w0 mu n)) (codeDraw_of code h5) (fun w0 mu c a w x hR hn => ?_), fn, hf, hname, by rw [hb]; rfl⟩
 have hpos : 0 < n := by
   have := Nat.le_of_ble_eq_true h2; simp at this; omega
 have hreg := hR.regs 0; have hg : getV (start n (.val false [.shr r] :: qs) x) 0 = .one (.shr r x.1) := rfl; rw [hg] at hreg; have hrep : RepTy w c.ok (.sl r) (a.eval (.tmp 0)) x.1 := hreg; have h0 : 0 < a.tmps.size := by omega
 by_cases hv : a.eval (.tmp 0) = .slice none 0 0
 · refine ⟨c, startNil n (.val false [.shr r] :: qs) x, ?_, ?_⟩
   · have := hR.setV (d := some 0) (v := .one .nils) (u := a.eval (.tmp 0)) hv (fun k e => by cases e; exact h0)
     rwa [put_same a 0 _ h0 rfl] at this
   · have hx : x.1 = ([] : List (denR r)) := by
       rcases (repSl _ _ _ _ _).1 hrep with ⟨_, h⟩ | ⟨_, _, h, _⟩
       · exact h
       · rw [hv] at h; cases h
     obtain ⟨x1, z⟩ := x; simp only at hx; subst hx; exact hnil z
 · refine ⟨c, startNn n r x.1 (.val false [.shr r] :: qs) x, ?_, hnn x⟩; have := hR.setV (d := some 0) (v := .one (.nn r x.1)) (u := a.eval (.tmp 0)) ⟨hrep, hv⟩ (fun k e => by cases e; exact h0)
   rwa [put_same a 0 _ h0 rfl] at this
end Go.TM
namespace Go.TM
open Go Go.RowKit
section
variable {R : Type} (T : Tab) (S : Sems) (D : Draws) (L : Loops R)
noncomputable def headK : Nat → Code → St → (St → Option R) → (Ex → St → Option R) → Option R
 | 0, _, st, g, _ => g st
 | n + 1, .seq a b, st, g, k => codeK T S D L a st fun e st' => match e with
   | .normal => headK n b st' g k
   | e => k e st'
 | _, _, _, _, _ => none
end
def restC : Nat → Code → Code
 | 0, c => c
 | n + 1, .seq _ b => restC n b
 | _, _ => .skip
theorem restC_dst {n : Nat} : (m : Nat) → (c : Code) → codeDst n c = true → codeDst n (restC m c) = true
 | 0, _, h => h
 | m + 1, c, h => by
   cases c with
   | seq a b =>
     unfold codeDst at h; rw [Bool.and_eq_true] at h; exact restC_dst m b h.2
   | _ => rfl
theorem restC_loops {ok : Nat → Code → Prop} : (m : Nat) → (c : Code) → codeLoops ok c → codeLoops ok (restC m c)
 | 0, _, h => h
 | m + 1, c, h => by
   cases c with
   | seq a b => exact restC_loops m b h.2
   | _ => exact trivial
theorem restC_draw {ok : Nat → Array Oper → Prop} : (m : Nat) → (c : Code) → codeDraw ok c → codeDraw ok (restC m c)
 | 0, _, h => h
 | m + 1, c, h => by
   cases c with
   | seq a b => exact restC_draw m b h.2
   | _ => exact trivial
theorem headK_ok {R : Type} {P : Program} {T : Tab} {S : Sems} {D : Draws} {L : Loops R} {w0 : World} {mu : Mu} {n : Nat} {r : R} {ok : Nat → Array Oper → Prop} (hop : OpSound P T S w0 mu n) (hD : DrawSound R P T S D w0 mu n ok)
   {k : Ex → St → Option R} {Q : Exit → Act → World → Prop} (hk : NextC w0 mu n r k Q) {g : St → Option R} : (m : Nat) → (cd : Code) → codeDst n cd = true → codeLoops (LoopAt P w0 mu n L r) cd → codeDraw ok cd →
   (∀ {c : Cz} {st : St} {a : Act} {w : World}, Rel w0 mu c st a w → a.tmps.size = n → g st = some r → (restC m cd).wp P Q a w) →
   {c : Cz} → {st : St} → {a : Act} → {w : World} → Rel w0 mu c st a w → a.tmps.size = n → headK T S D L m cd st g k = some r → cd.wp P Q a w
 | 0, cd, _, _, _, hg, c, st, a, w, h, hn, hv => hg h hn hv
 | m + 1, cd, hd, hL, hw, hg, c, st, a, w, h, hn, hv => by
   cases cd with
   | seq x y =>
     have hv : (codeK T S D L x st fun e st' => match e with
       | .normal => headK T S D L m y st' g k
       | e => k e st') = some r := hv
     unfold codeDst at hd; rw [Bool.and_eq_true] at hd; refine wp_seq (codeK_ok hop hD x hd.1 hL.1 hw.1 (fun {e} {c} {st} {a} {w} h1 h2 h3 => ?_) h hn hv)
     cases e with
     | normal => exact headK_ok hop hD hk m y hd.2 hL.2 hw.2 hg h1 h2 h3
     | exit m => exact hk h1 h2 h3
     | ret => exact hk h1 h2 h3
   | _ => have hv : (none : Option R) = some r := hv; cases hv
def SegOk {R : Type} (P : Program) (w0 : World) (mu : Mu) (n : Nat) (k : Ex → St → Option R) (r : R) (b : Code) (hp : List (Option AP)) (g : denR (headRT hp) → Option R) : Prop :=
 ∀ x, g x = some r → ∀ {Q : Exit → Act → World → Prop}, NextC w0 mu n r k Q → ∀ {c : Cz} {a : Act} {w : World}, Rel w0 mu c (headSt hp x) a w → a.tmps.size = n → b.wp P Q a w
structure Seg (tr : Tr) (S : Sems) (D : Draws) (n : Nat) (ps : List AP) {R : Type} (L : Loops R) (k : Ex → St → Option R) (P : Program) (b : Code) (hp : List (Option AP)) (g : denR (headRT hp) → Option R) : Prop where
 ok : ∀ (w0 : World) (mu : Mu) (r : R), AnShape ps mu → codeDst n b = true → codeDraw (fun id ops => drawOk ops (D id) = true) b → codeLoops (LoopAt P w0 mu n L r) b → SegOk P w0 mu n k r b hp g
theorem seg_last {P : Program} {tr : Tr} (hT : tr.all (recOk P) = true) (hE : EqOk P (tabOf tr)) (hm : P.follows .mixedOrders = true) {S : Sems} (hS : SemsOk P S) {D : Draws} {n : Nat} {ps : List AP} {R : Type} {L : Loops R} {k : Ex → St → Option R} {b : Code} {hp : List (Option AP)} {g : denR (headRT hp) → Option R}
   (h : ∀ x, codeK (tabOf tr) S D L b (headSt hp x) k = g x) : Seg tr S D n ps L k P b hp g :=
 ⟨fun w0 mu _ _ hd hw hL x hx _ hk _ _ _ hr hn => codeK_ok (opSound (tab_ok hT) hE hS w0 mu n) (drawSound (tab_ok hT) hE hm (opSound (tab_ok hT) hE hS w0 mu n)) b hd hL hw hk hr hn ((h x).trans hx)⟩
theorem fn_auto_seg {P : Program} {tr : Tr} (hT : tr.all (recOk P) = true) (hE : EqOk P (tabOf tr)) (hm : P.follows .mixedOrders = true) {S : Sems} (hS : SemsOk P S) {D : Draws} {f : FuncId} {fn : Func} {code b' : Code} {n m : Nat} {ps : List AP} {rs : List RP}
   {L : Loops (denR (resRT rs (extRT ps)))} {t : denR (headRT (ps.map some)) → Option (denR (resRT rs (extRT ps)))} {hp' : List (Option AP)} {g' : denR (headRT hp') → Option (denR (resRT rs (extRT ps)))}
   (hf : P.funcs[f]? = some fn) (hb : fn.body = some code) (hchk : fnB (tabOf tr) D fn code n ps rs = true) (hname : (fn.name == "runtime.NumGoroutine") = false)
   (hL : ∀ (w0 : World) (mu : Mu) (y : denR (resRT rs (extRT ps))), AnShape ps mu → ∀ p ∈ loopsIn code, LoopAt P w0 mu n L y p.1 p.2)
   (hr : restC m code = b') (hfit : headFit ps hp' = true) (hsem : ∀ x, headK (tabOf tr) S D L m code (start n ps x) (fun st => (packH st hp').bind g') (finK rs ps) = t x)
   (hs : Seg tr S D n ps L (finK rs ps) P b' hp' g') : Known P f (semOf ps rs t) := by
 unfold fnB at hchk; rw [Bool.and_eq_true, Bool.and_eq_true, Bool.and_eq_true, Bool.and_eq_true] at hchk; obtain ⟨h1, h2, h3, h4, h5⟩ := hchk; refine ⟨fun c w mu lc avs args A y hH hA hs0 ho => ?_, fn, hf, hname, by rw [hb]; rfl⟩; unfold semOf at hs0
 cases hx : castAs ps avs with
 | none => rw [hx] at hs0; cases hs0
 | some x =>
   rw [hx] at hs0; simp only [Option.some.injEq] at hs0; subst hs0; have hty : t x = some y := ho; obtain ⟨mu2, c', hmm, hok, hshape, hlent, hargs, havs, hR⟩ := start_ok hH hA hx (Nat.le_of_ble_eq_true h2); refine calls_of_wp hf hb ?_; have hn := Nat.eq_of_beq_eq_true h1; rw [hn]; have hsz : (args ++ Array.replicate (n - args.size) undef).size = n := by
     have : args.size ≤ n := by
       have h6 := Nat.le_of_ble_eq_true h2; have h7 := (castAs_ok ps 0 avs args.toList hx hA).2.1; simp at h7; omega
     simp; omega
   have hlp := codeLoops_of code (hL w mu2 y hshape); have hdr := codeDraw_of code h5; refine headK_ok (opSound (tab_ok hT) hE hS w mu2 n) (drawSound (tab_ok hT) hE hm (opSound (tab_ok hT) hE hS w mu2 n)) (k := finK rs ps) (r := y) (fun {e} {c1} {st1} {a1} {w1} q1 q2 q3 => ?_) m code h3 hlp hdr (fun {c1} {st1} {a1} {w1} q1 q2 q3 => ?_) hR hsz ((hsem x).trans hty)
   · obtain ⟨he, v, hrun, c2, hb2, hV, hX⟩ := fin_ok (P := P) (tab_ok hT) hmm hok q1 (resB_ok a1.tmps _ _ h4) havs.symm (by rw [← hargs]; simp) hlent q3; have hpost : a1.defers = [] ∧ ∃ v, (results fn a1.tmps).run P w1 = .ok v w1 ∧ (∃ v', Ending.returned v = .returned v' ∧ ∃ c', Bas w mu c' w1 ∧ HoldV c' w1 (outsOf rs (extRT ps) y).1 v' ∧ HoldX c' w1 lc 0 avs args.toList (extsOf ps (outsOf rs (extRT ps) y).2)) :=
       ⟨q1.plain, v, hrun, v, rfl, c2, hb2, hV, hX⟩
     rcases he with rfl | rfl <;> exact hpost
   · obtain ⟨z, hz, q4⟩ := Option.bind_eq_some_iff.1 q3; obtain ⟨c2, q5⟩ := rehead q1 hshape hfit hz; rw [hr]; refine hs.ok w mu2 y hshape (hr ▸ restC_dst m code h3) (hr ▸ restC_draw m code hdr) (hr ▸ restC_loops m code hlp) z q4 (fun {e} {c1} {st1} {a1} {w1} q1 q2 q3 => ?_) q5 q2; obtain ⟨he, v, hrun, c2, hb2, hV, hX⟩ := fin_ok (P := P) (tab_ok hT) hmm hok q1 (resB_ok a1.tmps _ _ h4) havs.symm (by rw [← hargs]; simp) hlent q3; have hpost : a1.defers = [] ∧ ∃ v, (results fn a1.tmps).run P w1 = .ok v w1 ∧ (∃ v', Ending.returned v = .returned v' ∧ ∃ c', Bas w mu c' w1 ∧ HoldV c' w1 (outsOf rs (extRT ps) y).1 v' ∧ HoldX c' w1 lc 0 avs args.toList (extsOf ps (outsOf rs (extRT ps) y).2)) :=
       ⟨q1.plain, v, hrun, v, rfl, c2, hb2, hV, hX⟩
     rcases he with rfl | rfl <;> exact hpost
end Go.TM
namespace Go.TM
open Go Go.RowKit
noncomputable section
structure TK (P : Program) where
 tr : Tr
 hT : tr.all (recOk P) = true
 hE : EqOk P (tabOf tr)
 hm : P.follows .mixedOrders = true
structure KF (P : Program) where
 f : FuncId
 m : Pm × Pm × Pm
 sem : Sem1
 ok : Known P f sem
def KF.sl {P : Program} (k : KF P) : Nat × (Pm × Pm × Pm × Sem1) := (k.f, (k.m.1, k.m.2.1, k.m.2.2, k.sem))
def slOf {P : Program} : List (KF P) → SemL
 | [] => []
 | k :: l => k.sl :: slOf l
theorem kf_ok {P : Program} : (l : List (KF P)) → SemsOk P (semsOf (slOf l))
 | [] => sems_nil
 | k :: l => sems_cons k.ok (kf_ok l)
def kw {P : Program} {f : FuncId} {s : Sem1} (h : Known P f s) : KF P := ⟨f, (.shr, .shr, .shr), s, h⟩
def kv {P : Program} (m : Pm × Pm × Pm) {f : FuncId} {s : Sem1} (h : Known P f s) : KF P := ⟨f, m, s, h⟩
structure LD where
 i : Nat
 b : Code
 hp : List (Option AP)
 e : List (Option AP)
 q : List (Option AP)
 r : denR (headRT hp) → Option (Sum (denR (headRT hp)) (Sum (denR (headRT e)) (denR (headRT q))))
def LD.Ok (l : LD) (P : Program) (n : Nat) (ps : List AP) : Prop :=
 ∀ {R : Type} (L : Loops R) (y : R) (w0 : World) (mu : Mu), (∀ st k, L l.i l.b st k = loopAt l.hp l.e l.q l.r st k) → AnShape ps mu → LoopAt P w0 mu n L y l.i l.b
structure KLs (P : Program) (n : Nat) (ps : List AP) where
 d : LD
 ok : d.Ok P n ps
def lpsOf {P : Program} {n : Nat} {ps : List AP} {R : Type} : List (KLs P n ps) → Loops R
 | [] => noL
 | l :: ls => fun id b st k => bif Nat.beq id l.d.i then loopAt l.d.hp l.d.e l.d.q l.d.r st k else lpsOf ls id b st k
def lpsAt {P : Program} {n : Nat} {ps : List AP} : List (KLs P n ps) → List (Nat × Code)
 | [] => []
 | l :: ls => (l.d.i, l.d.b) :: lpsAt ls
def lpsB {P : Program} {n : Nat} {ps : List AP} : List (KLs P n ps) → Bool
 | [] => true
 | l :: ls => ls.all (fun m => !Nat.beq m.d.i l.d.i) && lpsB ls
theorem lps_at {P : Program} {n : Nat} {ps : List AP} {R : Type} : (ls : List (KLs P n ps)) → lpsB ls = true → ∀ l ∈ ls, ∀ st (k : Ex → St → Option R), lpsOf ls l.d.i l.d.b st k = loopAt l.d.hp l.d.e l.d.q l.d.r st k
 | [], _, l, h => by cases h
 | m :: ls, hb, l, h => by
   intro st k; unfold lpsB at hb; rw [Bool.and_eq_true] at hb; rcases List.mem_cons.1 h with rfl | h
   · show (bif Nat.beq l.d.i l.d.i then _ else _) = _; rw [Nat.beq_refl]; rfl
   · show (bif Nat.beq l.d.i m.d.i then _ else lpsOf ls l.d.i l.d.b st k) = _; have := List.all_eq_true.1 hb.1 l h; rw [Bool.not_eq_true'] at this; rw [this]; exact lps_at ls hb.2 l h st k
theorem lps_mem {P : Program} {n : Nat} {ps : List AP} : (ls : List (KLs P n ps)) → ∀ p ∈ lpsAt ls, ∃ l ∈ ls, p = (l.d.i, l.d.b)
 | [], p, h => by cases h
 | m :: ls, p, h => by
   rcases List.mem_cons.1 h with rfl | h
   · exact ⟨m, List.mem_cons_self, rfl⟩
   · obtain ⟨l, h1, h2⟩ := lps_mem ls p h; exact ⟨l, List.mem_cons_of_mem _ h1, h2⟩
theorem lps_ok {P : Program} {n : Nat} {ps : List AP} {R : Type} {ls : List (KLs P n ps)} (hb : lpsB ls = true) {c : Code} (hc : loopsIn c = lpsAt ls) (y : R) (w0 : World) (mu : Mu) (hs : AnShape ps mu) : ∀ p ∈ loopsIn c, LoopAt P w0 mu n (lpsOf ls) y p.1 p.2 := by
 rw [hc]; intro p hp; obtain ⟨l, hl, rfl⟩ := lps_mem ls p hp; exact l.ok (lpsOf ls) y w0 mu (lps_at ls hb l hl) hs
structure FC (P : Program) where
 t : TK P
 l : List (KF P)
 D : Draws
 fn : Func
 ps : List AP
abbrev FC.code {P : Program} (F : FC P) : Code := bodyOf F.fn
abbrev FC.S {P : Program} (F : FC P) : Sems := semsOf (slOf F.l)
abbrev FC.T {P : Program} (F : FC P) : Tab := tabOf F.t.tr
abbrev FC.KL {P : Program} (F : FC P) : Type := KLs P F.fn.ntmps F.ps
abbrev FC.Ok {P : Program} (F : FC P) (l : LD) : Prop := l.Ok P F.fn.ntmps F.ps
abbrev FC.fin {P : Program} (F : FC P) (rs : List RP) : Ex → St → Option (denR (resRT rs (extRT F.ps))) := finK rs F.ps
def FC.lp {P : Program} (F : FC P) (j : Nat) : Code := nthLoop F.code j
theorem FC.kl {P : Program} (F : FC P) {l : LD} (ls : List F.KL) (h1 : (loopB F.D F.ps l.hp l.e l.q F.fn.ntmps l.b && lpsB ls) = true) (h2 : loopsIn l.b = lpsAt ls)
   (ht : ∀ x, codeK F.T F.S F.D (lpsOf ls) l.b (headSt l.hp x) (roundK l.i l.hp l.e l.q) = l.r x) : F.Ok l := by
 rw [Bool.and_eq_true] at h1; exact fun _ _ w0 mu hL hs => loop_auto F.t.hT F.t.hE F.t.hm (kf_ok F.l) hs h1.1 (fun z => lps_ok h1.2 h2 z w0 mu hs) ht hL
theorem FC.kl0 {P : Program} (F : FC P) {l : LD} (h : ∀ x, (loopB F.D F.ps l.hp l.e l.q F.fn.ntmps l.b && (loopsIn l.b).isEmpty, codeK F.T F.S F.D noL l.b (headSt l.hp x) (roundK l.i l.hp l.e l.q)) = (true, l.r x)) : F.Ok l := by
 have h1 := congrArg Prod.fst (h (zeroR _)); have h1 : (loopB F.D F.ps l.hp l.e l.q F.fn.ntmps l.b && (loopsIn l.b).isEmpty) = true := h1; rw [Bool.and_eq_true] at h1; have ht : ∀ x, codeK F.T F.S F.D noL l.b (headSt l.hp x) (roundK l.i l.hp l.e l.q) = l.r x := fun x => congrArg Prod.snd (h x)
 have g : F.Ok l := F.kl [] (by rw [h1.1]; rfl) (List.isEmpty_iff.1 h1.2) ht; exact @g
abbrev FC.semF {P : Program} (F : FC P) (rs : List RP) (t : Cur (headRT (F.ps.map some)) (Option (denR (resRT rs (extRT F.ps))))) : Sem1 := semOf F.ps rs (unc (headRT (F.ps.map some)) t)
abbrev FC.Kn {P : Program} (F : FC P) (rs : List RP) (f : FuncId) (t : Cur (headRT (F.ps.map some)) (Option (denR (resRT rs (extRT F.ps))))) : Prop := Known P f (F.semF rs t)
def FC.chk {P : Program} (F : FC P) (rs : List RP) : Bool := F.fn.body.isSome && (fnB F.T F.D F.fn F.code F.fn.ntmps F.ps rs && !(F.fn.name == "runtime.NumGoroutine"))
theorem FC.chk_ok {P : Program} {F : FC P} {rs : List RP} (h : F.chk rs = true) : F.fn.body = some F.code ∧ fnB F.T F.D F.fn F.code F.fn.ntmps F.ps rs = true ∧ (F.fn.name == "runtime.NumGoroutine") = false := by
 unfold FC.chk at h; rw [Bool.and_eq_true, Bool.and_eq_true, Bool.not_eq_true'] at h; obtain ⟨h1, h2, h3⟩ := h; refine ⟨?_, h2, h3⟩; obtain ⟨c, hc⟩ := Option.isSome_iff_exists.1 h1; unfold FC.code bodyOf; rw [hc]
theorem FC.kf {P : Program} (F : FC P) {rs : List RP} {f : FuncId} {t : Cur (headRT (F.ps.map some)) (Option (denR (resRT rs (extRT F.ps))))} (ls : List F.KL) (hf : P.funcs[f]? = some F.fn) (h1 : (F.chk rs && lpsB ls) = true) (h2 : loopsIn F.code = lpsAt ls)
   (ht : ∀ x, codeK F.T F.S F.D (lpsOf ls) F.code (start F.fn.ntmps F.ps x) (F.fin rs) = unc (headRT (F.ps.map some)) t x) : F.Kn rs f t := by
 rw [Bool.and_eq_true] at h1; obtain ⟨hb, hc, hn⟩ := F.chk_ok h1.1; exact fn_auto F.t.hT F.t.hE F.t.hm (kf_ok F.l) (D := F.D) (L := lpsOf ls) hf hb hc hn (fun w0 mu y hs => lps_ok h1.2 h2 y w0 mu hs) ht
theorem FC.kf0 {P : Program} (F : FC P) {rs : List RP} {f : FuncId} {t : Cur (headRT (F.ps.map some)) (Option (denR (resRT rs (extRT F.ps))))} (hf : P.funcs[f]? = some F.fn)
   (h : ∀ x, (F.chk rs && (loopsIn F.code).isEmpty, codeK F.T F.S F.D noL F.code (start F.fn.ntmps F.ps x) (F.fin rs)) = (true, unc (headRT (F.ps.map some)) t x)) : F.Kn rs f t := by
 have h1 := congrArg Prod.fst (h (zeroR _)); have h1 : (F.chk rs && (loopsIn F.code).isEmpty) = true := h1; rw [Bool.and_eq_true] at h1; exact F.kf [] hf (by rw [h1.1]; rfl) (List.isEmpty_iff.1 h1.2) fun x => congrArg Prod.snd (h x)
theorem FC.kf1 {P : Program} (F : FC P) {rs : List RP} {f : FuncId} {t : Cur (headRT (F.ps.map some)) (Option (denR (resRT rs (extRT F.ps))))} (hf : P.funcs[f]? = some F.fn) (h1 : (F.chk rs && (loopsIn F.code).isEmpty) = true)
   (ht : ∀ x, codeK F.T F.S F.D noL F.code (start F.fn.ntmps F.ps x) (F.fin rs) = unc (headRT (F.ps.map some)) t x) : F.Kn rs f t := by
 rw [Bool.and_eq_true] at h1; exact F.kf [] hf (by rw [h1.1]; rfl) (List.isEmpty_iff.1 h1.2) ht
theorem FC.kl1 {P : Program} (F : FC P) {l : LD} (h1 : (loopB F.D F.ps l.hp l.e l.q F.fn.ntmps l.b && (loopsIn l.b).isEmpty) = true)
   (ht : ∀ x, codeK F.T F.S F.D noL l.b (headSt l.hp x) (roundK l.i l.hp l.e l.q) = l.r x) : F.Ok l := by
 rw [Bool.and_eq_true] at h1; have g : F.Ok l := F.kl [] (by rw [h1.1]; rfl) (List.isEmpty_iff.1 h1.2) ht; exact @g
theorem FC.kfn {P : Program} (F : FC P) {rs : List RP} {f : FuncId} {t : Cur (headRT (F.ps.map some)) (Option (denR (resRT rs (extRT F.ps))))} (ls : List F.KL) (hf : P.funcs[f]? = some F.fn) (r : RT) (qs : List AP) (hq : F.ps = .val false [.shr r] :: qs) (h1 : (F.chk rs && lpsB ls) = true) (h2 : loopsIn F.code = lpsAt ls)
   (h4 : ∀ x, codeK F.T F.S F.D (lpsOf ls) F.code (setV (start F.fn.ntmps F.ps (hq ▸ (([] : List (denR r)), x))) (some 0) (.one .nils)) (F.fin rs) = unc (headRT (F.ps.map some)) t (hq ▸ (([] : List (denR r)), x)))
   (h5 : ∀ x, codeK F.T F.S F.D (lpsOf ls) F.code (setV (start F.fn.ntmps F.ps (hq ▸ x)) (some 0) (.one (.nn r x.1))) (F.fin rs) = unc (headRT (F.ps.map some)) t (hq ▸ x)) : F.Kn rs f t := by
 rw [Bool.and_eq_true] at h1; obtain ⟨hb, hc, hn⟩ := F.chk_ok h1.1; obtain ⟨tt, l, D, fn, ps⟩ := F; simp only at hq; subst hq; exact fn_auto_nil tt.hT tt.hE tt.hm (kf_ok l) (D := D) (L := lpsOf ls) hf hb hc hn (fun w0 mu y hs => lps_ok h1.2 h2 y w0 mu hs) h4 h5
theorem FC.segLl {P : Program} (F : FC P) (ls : List F.KL) {R : Type} {k : Ex → St → Option R} {b : Code} {hp : List (Option AP)} {g : denR (headRT hp) → Option R} (h : ∀ x, codeK F.T F.S F.D (lpsOf ls) b (headSt hp x) k = g x) : Seg F.t.tr F.S F.D F.fn.ntmps F.ps (lpsOf ls) k P b hp g :=
 seg_last F.t.hT F.t.hE F.t.hm (kf_ok F.l) h
theorem FC.kfsl {P : Program} (F : FC P) (ls : List F.KL) {rs : List RP} {f : FuncId} {t : Cur (headRT (F.ps.map some)) (Option (denR (resRT rs (extRT F.ps))))} (hf : P.funcs[f]? = some F.fn) (m : Nat) {b' : Code} {hp' : List (Option AP)} {g' : denR (headRT hp') → Option (denR (resRT rs (extRT F.ps)))} (hs : Seg F.t.tr F.S F.D F.fn.ntmps F.ps (lpsOf ls) (F.fin rs) P b' hp' g')
   (h1 : (F.chk rs && (lpsB ls && headFit F.ps hp')) = true) (h2 : loopsIn F.code = lpsAt ls) (hr : restC m F.code = b') (ht : ∀ x, headK F.T F.S F.D (lpsOf ls) m F.code (start F.fn.ntmps F.ps x) (fun st => (packH st hp').bind g') (F.fin rs) = unc (headRT (F.ps.map some)) t x) : F.Kn rs f t := by
 rw [Bool.and_eq_true, Bool.and_eq_true] at h1; obtain ⟨hb, hc, hn⟩ := F.chk_ok h1.1; exact fn_auto_seg F.t.hT F.t.hE F.t.hm (kf_ok F.l) (D := F.D) (L := lpsOf ls) hf hb hc hn (fun w0 mu y hs => lps_ok h1.2.1 h2 y w0 mu hs) hr h1.2.2 ht hs
def sp : List (Nat × AP) → Nat → List (Option AP)
 | [], k => nn k
 | (g, p) :: l, k => nn g ++ some p :: sp l k
abbrev vl (l : List OP) : AP := .val false l
abbrev va (l : List OP) : AP := .val true l
abbrev Pl.a (i : Nat) (p : Pl) : Pl := .op i .any p
abbrev Pl.t (i : Nat) (p : Pl) : Pl := .op i .take p
abbrev Pl.o (i : Nat) (p : Pl) : Pl := .op i .one p
abbrev Pl.l (i : Nat) (p : Pl) : Pl := .op i .last p
def dr (i : Nat) (p : Pl) (D : Draws := noD) : Draws := fun id => bif Nat.beq id i then p else D id
end
end Go.TM
