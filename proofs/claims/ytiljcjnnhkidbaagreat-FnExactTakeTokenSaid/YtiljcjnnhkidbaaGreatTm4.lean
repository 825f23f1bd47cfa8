/- A machine over trees: an evaluator of the code, and that what it finds is so; part 4. -/
import Derived.Test.YtiljcjnnhkidbaaGreatTm3
import Derived.Laws.StructEq
import Derived.ChangeKeysEq
namespace Go.TM
open Go Go.RowKit Go.ChangeShapes
mutual
theorem Ty.wD : (t : Ty) → Ty.eq? t t = some ⟨rfl⟩
 | .int k => by simp [Ty.eq?]
 | .bool => rfl
 | .str => rfl
 | .sl r => by simp [Ty.eq?, RT.wD r]
theorem RT.wD : (r : RT) → RT.eq? r r = some ⟨rfl⟩
 | .nil => rfl
 | .cons t r => by simp [RT.eq?, Ty.wD t, RT.wD r]
end
theorem Jv (r : RT) (xs : List (aq r)) : ck r xs = some xs := by
 unfold ck; rw [RT.wD]
theorem sM {p : OP} {ps : List OP} {t : RT} {o : OV} {os : List OV} {y : aq t} {x : den p.ty} {z : aq (my ps t)} (h1 : rN p o = some x) (h2 : dW ps t os y = some z) : dW (p :: ps) t (o :: os) y = some ((x, z) : aq (my (p :: ps) t)) := by
 unfold dW; rw [h1, h2]; rfl
theorem L2 {k : IntKind} {n : Int} : rN (.int k) (.int k n) = some n := if_pos rfl
def nL : RT → List OP
 | .nil => []
 | .cons (.int k) r => .int k :: nL r
 | .cons .bool r => .bool :: nL r
 | .cons .str r => .str :: nL r
 | .cons (.sl q) r => .shr q :: nL r
def Cz.free : Cz := { bx := fun _ => 0, lc := fun _ _ => .nil, own := fun _ => none }
theorem HW {w : World} {f : Nat → Lb} : (r : RT) → (t : RT) → (j : Nat) → (vs : List Value) → (x : aq r) → (y : aq t) → dD w (fun _ => True) r vs x → zR r x →
   ∃ z : aq (my (nL r) t), bT Cz.free w f j (ed (nL r) t z).1 vs ∧ dW (nL r) t (ed (nL r) t z).1 y = some z ∧ (zR t y → zR (my (nL r) t) z)
 | .nil, t, j, vs, x, y, h, _ => by
   have : vs = [] := h; subst this; exact ⟨y, rfl, rfl, id⟩
 | .cons ty r, t, j, vs, x, y, h, hs => by
   obtain ⟨v, l, rfl, h1, h2⟩ := h; obtain ⟨s1, s2⟩ := aa.1 hs; obtain ⟨z, g1, g2, g3⟩ := HW (f := f) r t (j + 1) l x.2 y h2 s2
   cases ty with
   | int k =>
     refine ⟨(x.1, z), ⟨l, by rw [rD.1 h1], g1⟩, ?_, fun hy => aa.2 ⟨s1, g3 hy⟩⟩; exact sM (p := .int k) (o := .int k x.1) (L2) g2
   | bool =>
     refine ⟨(x.1, z), ⟨l, by rw [sD.1 h1], g1⟩, ?_, fun hy => aa.2 ⟨s1, g3 hy⟩⟩; exact sM (p := .bool) (o := .bool x.1) (rfl) g2
   | str =>
     refine ⟨(x.1, z), ⟨l, by rw [vZ.1 h1], g1⟩, ?_, fun hy => aa.2 ⟨s1, g3 hy⟩⟩; exact sM (p := .str) (o := .str x.1) (rfl) g2
   | sl q =>
     refine ⟨(x.1, z), ⟨v, l, rfl, cw.stays ⟨Nat.le_refl _, fun _ _ _ => rfl, fun _ _ _ => rfl⟩ _ _ _ h1, g1⟩, ?_, fun hy => aa.2 ⟨s1, g3 hy⟩⟩; exact sM (p := .shr q) (o := .shr q x.1) (Jv q x.1) g2
def OP.same : OP → OP → Bool
 | .int k, .int l => decide (k = l)
 | .bool, .bool => true
 | .str, .str => true
 | .shr r, .shr s => (RT.eq? r s).isSome
 | _, _ => false
theorem OP.zP {p q : OP} (h : p.same q = true) : p = q := by
 cases p <;> cases q <;> simp [OP.same] at h
 · rw [h]
 · rfl
 · rfl
 · rename_i r s; obtain ⟨⟨e⟩, _⟩ := Option.isSome_iff_exists.1 h; rw [e]
def xl : List OP → List OP → Bool
 | [], [] => true
 | p :: l, q :: m => p.same q && xl l m
 | _, _ => false
theorem Dz : (l m : List OP) → xl l m = true → l = m
 | [], [], _ => rfl
 | p :: l, q :: m, h => by
   unfold xl at h; rw [Bool.and_eq_true] at h; rw [OP.zP h.1, Dz l m h.2]
 | [], _ :: _, h => by simp [xl] at h
 | _ :: _, [], h => by simp [xl] at h
def IS (P : Program) : List TypeId → List AP → Bool
 | [], [] => true
 | t :: ts, .val agg os :: ps => (match Dy P 30 t with
     | some r => xl (nL r) os
     | none => false) && ((match P.underlying t with | some (.struct _) => agg | _ => !agg) && (P.readableRec t && (Nat.blt t P.types.size && IS P ts ps)))
 | _, _ => false
theorem one_cell {P : Program} {w : World} {r : Reach} {b : Nat} {t : TypeId} {v : Value} {rt : RT} (hn : Dy P 30 t = some rt) (hs : ∀ fs, P.underlying t ≠ some (.struct fs)) (h : Value.okWide P w r b t v) : v.cells.toList = [v] := by
 cases hu : P.underlying t with
 | none => simp [Dy, hu] at hn
 | some d =>
   cases v <;> try rfl
   rename_i cs
   exfalso
   cases d <;> first | exact hs _ hu | (simp [Dy, hu] at hn; done) | (simp [Value.okWide, hu, Cell.okWide, Cell.ok] at h)
theorem Fv {H : Type} {enc : TypeId × Value → H} {P : Program} {w : World} {lc : Nat → Nat → Loc} : (ts : List TypeId) → (ps : List AP) → IS P ts ps = true → (i : Nat) → (vs : List Value) → (ds : List (DataW H)) → (p : List MemPlace) →
   (∀ (j : Nat) t v, ts[j]? = some t → vs[j]? = some v → ∃ b, Value.okWide P w .any b t v) → DataW.TrodAll enc P w 0 (fun _ => true) true ts vs ds p →
   ∃ (x : aq (az (ps.map some))) (eg : List AV), fF ps eg = some x ∧ x6 Cz.free w lc i eg vs ∧ zR (az (ps.map some)) x
 | [], [], _, i, vs, ds, p, _, hA => by
   obtain ⟨rfl, _, _⟩ := trodAll_nil hA; exact ⟨(), [], rfl, rfl, Dw _⟩
 | [], _ :: _, hb, _, _, _, _, _, _ => by simp [IS] at hb
 | t :: ts, [], hb, _, _, _, _, _, _ => by simp [IS] at hb
 | t :: ts, .io _ _ :: _, hb, _, _, _, _, _, _ => by simp [IS] at hb
 | t :: ts, .box _ _ :: _, hb, _, _, _, _, _, _ => by simp [IS] at hb
 | t :: ts, .bW _ :: _, hb, _, _, _, _, _, _ => by simp [IS] at hb
 | t :: ts, .val agg os :: ps, hb, i, vs, ds, p, rM, hA => by
   obtain ⟨v, XN, d, ds', p', q', rfl, rfl, rfl, h1, h2⟩ := trodAll_cons hA; unfold IS at hb; rw [Bool.and_eq_true, Bool.and_eq_true, Bool.and_eq_true, Bool.and_eq_true] at hb; obtain ⟨b1, b2, _, _, b5⟩ := hb; obtain ⟨y, eg, g1, g2, g3⟩ := Fv (lc := lc) ts ps b5 (i + 1) XN ds' q' (fun j t v ht hv => rM (j + 1) t v (by simpa using ht) (by simpa using hv)) h2; obtain ⟨b0, gI⟩ := rM 0 t v rfl rfl
   cases hr : Dy P 30 t with
   | none => rw [hr] at b1; cases b1
   | some r =>
     rw [hr] at b1; have s4 := Dz _ _ b1; subst s4; obtain ⟨fuel, hd⟩ := h1; obtain ⟨x, I8, EE⟩ := Gm 30 hr hd; obtain ⟨z, k1, k2, k3⟩ := HW (f := .cA i) r (az (ps.map some)) 0 v.cells.toList x y I8 EE
     cases agg with
     | false =>
       have hs : ∀ fs, P.underlying t ≠ some (.struct fs) := by
         intro fs e; rw [e] at b2
         cases b2
       rw [one_cell hr hs gI] at k1; refine ⟨z, .val false (ed (nL r) (az (ps.map some)) z).1 :: eg, ?_, ⟨v, XN, rfl, k1, g2⟩, k3 g3⟩; show (match fF ps eg with | some y => Fj (.val false (nL r)) (az (ps.map some)) (.val false _) y | none => none) = _; rw [g1]; exact k2
     | true =>
       obtain ⟨fs, hu⟩ : ∃ fs, P.underlying t = some (.struct fs) := by
         cases hu : P.underlying t with
         | none => rw [hu] at b2; cases b2
         | some d =>
           rw [hu] at b2
           cases d <;> first | exact ⟨_, rfl⟩ | cases b2
       obtain ⟨cs, rfl, _⟩ : ∃ cs, v = .agg cs ∧ True := by
         unfold Value.okWide at gI; rw [hu] at gI; obtain ⟨cs, e, _⟩ := gI; exact ⟨cs, e, trivial⟩
       refine ⟨z, .val true (ed (nL r) (az (ps.map some)) z).1 :: eg, ?_, ⟨.agg cs, XN, rfl, ⟨cs, rfl, k1⟩, g2⟩, k3 g3⟩; show (match fF ps eg with | some y => Fj (.val true (nL r)) (az (ps.map some)) (.val true _) y | none => none) = _; rw [g1]; exact k2
theorem Fx {H : Type} {enc : TypeId × Value → H} {P : Program} (hl : laidOutB P = true) {W W' : World} (hb : Below W.heap.size W W') : (ts : List TypeId) → (ps : List AP) → IS P ts ps = true → (vs : List Value) → (ds : List (DataW H)) → (p : List MemPlace) → (∀ x ∈ p, x.block < W.heap.size) →
   DataW.TrodAll enc P W 0 (fun _ => true) true ts vs ds p → DataW.TrodAll enc P W' 0 (fun b => decide (b < W.heap.size)) true ts vs ds p
 | [], [], _, vs, ds, p, _, hA => by
   obtain ⟨rfl, rfl, rfl⟩ := trodAll_nil hA; exact trodAll_mk0
 | [], _ :: _, hb, _, _, _, _, _ => by simp [IS] at hb
 | t :: ts, [], hb, _, _, _, _, _ => by simp [IS] at hb
 | t :: ts, .io _ _ :: _, hb, _, _, _, _, _ => by simp [IS] at hb
 | t :: ts, .box _ _ :: _, hb, _, _, _, _, _ => by simp [IS] at hb
 | t :: ts, .bW _ :: _, hb, _, _, _, _, _ => by simp [IS] at hb
 | t :: ts, .val agg os :: ps, hp, vs, ds, p, dm, hA => by
   obtain ⟨v, XN, d, ds', p', q', rfl, rfl, rfl, h1, h2⟩ := trodAll_cons hA; unfold IS at hp; rw [Bool.and_eq_true, Bool.and_eq_true, Bool.and_eq_true, Bool.and_eq_true] at hp; obtain ⟨_, _, b3, b4, b5⟩ := hp; exact trodAll_cons_mk (Below.trod hl b3 (Nat.le_of_ble_eq_true b4) h1 hb (fun x hx => dm x (List.mem_append_left _ hx))) (Fx hl hb ts ps b5 XN ds' q' (fun x hx => dm x (List.mem_append_right _ hx)) h2)
theorem L3 {H : Type} {enc : TypeId × Value → H} {P : Program} (hl : laidOutB P = true) {f : FuncId} {ps : List AP} {s : Nat} {t : aq (az (ps.map some)) → Option (aq (dj [{ src := .tmp s, agg := false, ps := [.bool] }] (bU ps)))}
   (hk : qI P f (mA ps [{ src := .tmp s, agg := false, ps := [.bool] }] t)) {ts : List TypeId} (PE : IS P ts ps = true) (ac1 : ∀ x, zR (az (ps.map some)) x → ∃ y, t x = some y ∧ y.1 = true)
   {W : World} {base : Nat} {args : Array Value} {ds : List (DataW H)} {p : List MemPlace} (rM : ∀ (j : Nat) t v, ts[j]? = some t → args[j]? = some v → Value.okWide P W .any base t v)
   (hA : DataW.TrodAll enc P W 0 (fun _ => true) true ts args.toList ds p) (dm : ∀ x ∈ p, x.block < W.heap.size) :
   Calls P f args W fun e W' => e = .returned (.bool true) ∧ Below W.heap.size W W' ∧ DataW.TrodAll enc P W' 0 (fun b => decide (b < W.heap.size)) true ts args.toList ds p := by
 obtain ⟨x, eg, h1, h2, h3⟩ := Fv (lc := fun _ _ => .nil) ts ps PE 0 args.toList ds p (fun j t v ht hv => ⟨base, rM j t v ht (by rwa [Array.getElem?_toList] at hv)⟩) hA; obtain ⟨y, hy, hy1⟩ := ac1 x h3
 let μ : Mu := { m := fun _ => False, ok := fun _ => True, an := [] }
 have hH : Handed Cz.free W μ := {
   m := fun b => ⟨fun h => h.elim, fun ⟨l, h, _⟩ => by cases h⟩
   ok := fun b => ⟨fun _ => rfl, fun _ => trivial⟩
   lt := fun b l h => by cases h
   lb := fun b l h => by cases h }
 have hs : mA ps [{ src := .tmp s, agg := false, ps := [.bool] }] t eg = some { r := dj [{ src := .tmp s, agg := false, ps := [.bool] }] (bU ps), o := t x, res := fun y => { outs := (gv [{ src := .tmp s, agg := false, ps := [.bool] }] (bU ps) y).1, exts := mX ps (gv [{ src := .tmp s, agg := false, ps := [.bool] }] (bU ps) y).2 } } := by
   unfold mA; rw [h1]
 refine (hk.ok Cz.free W μ (fun _ _ => .nil) eg args _ y hH h2 hs hy).mono fun e W' ⟨v, he, c', hb, hV, _⟩ => ?_
 have XO : Below W.heap.size W W' := ⟨hb.kept.1, hb.kept.2.1, hb.kept.2.2.1, hb.kept.2.2.2, fun k hk => hb.old k hk (fun h => h.elim)⟩; have hv : v = .bool true := by
   have hV : rJ c' W' [.one (.bool y.1)] v := hV; rcases hV with ⟨r, e1, g⟩ | ⟨g, _⟩
   · simp only [List.cons.injEq, and_true] at e1; subst e1; obtain ⟨v', l, e2, g2, _⟩ := g; simp only [List.cons.injEq] at e2; obtain ⟨e2, _⟩ := e2; obtain ⟨l', g3, _⟩ := g2; simp only [List.cons.injEq] at g3; rw [e2, g3.1, hy1]
   · simp at g
 exact ⟨by rw [he, hv], XO, Fx hl XO ts ps PE args.toList ds p dm hA⟩
theorem dR {a : Int} (h1 : -9223372036854775808 ≤ a) (h2 : a < 9223372036854775808) : IntKind.i64.wrap a = a := by
 rw [IntKind.wrap_i64]; omega
theorem wf_i64 {n : Int} (h : (Lit.int .i64 n).wf = true) : -9223372036854775808 ≤ n ∧ n < 9223372036854775808 := by
 simp only [Lit.wf, Bool.and_eq_true, decide_eq_true_eq] at h; have h1 : IntKind.i64.min = -9223372036854775808 := rfl; have h2 : IntKind.i64.max = 9223372036854775807 := rfl; omega
theorem tC {X E : Type} {round : X → Option (Sum X E)} {n : Nat} (st : Nat → X) (g : Nat → Option E) (Gn : ∃ e, round (st n) = some (.inr e) ∧ g n = some e)
   (vL : ∀ k, k < n → (∃ e, round (st k) = some (.inr e) ∧ g k = some e) ∨ (round (st k) = some (.inl (st (k + 1))) ∧ g k = g (k + 1))) : ∀ k, k ≤ n → aE round (st k) = g k := by
 have key : ∀ d k, k + d = n → aE round (st k) = g k := by
   intro d
   induction d with
   | zero =>
     intro k hk; have : k = n := by omega
     subst this; obtain ⟨e, h1, h2⟩ := Gn; rw [kg, h1, h2]
   | succ d ih =>
     intro k hk; rcases vL k (by omega) with ⟨e, h1, h2⟩ | ⟨h1, h2⟩
     · rw [kg, h1, h2]
     · rw [kg, h1, h2]; exact ih (k + 1) (by omega)
 intro k hk; exact key (n - k) k (by omega)
theorem de {X E : Type} {round : X → Option (Sum X E)} (n : Nat) (st : Nat → X) {e : E} (Gn : round (st n) = some (.inr e))
   (vL : ∀ k, k < n → round (st k) = some (.inl (st (k + 1)))) : aE round (st 0) = some e :=
 tC st (fun _ => some e) ⟨e, Gn, rfl⟩ (fun k hk => .inr ⟨vL k hk, rfl⟩) 0 (Nat.zero_le _)
theorem eY {X E : Type} {round : X → Option (Sum X E)} (n : Nat) (I : Nat → X → Prop) (Q : E → Prop) (Gn : ∀ x, I n x → ∃ e, round x = some (.inr e) ∧ Q e)
   (vL : ∀ k x, k < n → I k x → (∃ e, round x = some (.inr e) ∧ Q e) ∨ (∃ y, round x = some (.inl y) ∧ I (k + 1) y)) {x : X} (h : I 0 x) : ∃ e, aE round x = some e ∧ Q e := by
 have key : ∀ d k x, k + d = n → I k x → ∃ e, aE round x = some e ∧ Q e := by
   intro d
   induction d with
   | zero =>
     intro k x hk hI; have : k = n := by omega
     subst this; obtain ⟨e, h1, h2⟩ := Gn x hI; exact ⟨e, by rw [kg, h1], h2⟩
   | succ d ih =>
     intro k x hk hI; rcases vL k x (by omega) hI with ⟨e, h1, h2⟩ | ⟨y, h1, h2⟩
     · exact ⟨e, by rw [kg, h1], h2⟩
     · obtain ⟨e, h3, h4⟩ := ih (k + 1) y (by omega) h2; exact ⟨e, by rw [kg, h1]; exact h3, h4⟩
 exact key n 0 x (by omega) h
theorem ew {A B C : Type} {a : A} {f : A → Option C} {g : B → Option C} : dK (some (.inl a)) f g = f a := rfl
theorem ae {p : Prop} [Decidable p] (h : p) : decide p = true := decide_eq_true h
theorem af {p : Prop} [Decidable p] (h : ¬ p) : decide p = false := decide_eq_false h
theorem aC (k : Nat) : Int.toNat ((k : Nat) : Int) = k := rfl
theorem iq {a b : Nat} (h : a < b) : Nat.blt a b = true := Nat.ble_eq_true_of_le h
theorem bm {a b : Nat} (h : a ≤ b) : Nat.ble a b = true := Nat.ble_eq_true_of_le h
theorem ar (k : Nat) : decide ((0 : Int) ≤ ((k : Nat) : Int)) = true := ae (by omega)
theorem aw {k n : Nat} (h : k < n) : decide (((k : Nat) : Int) < ((n : Nat) : Int)) = true := ae (by omega)
theorem aD (n : Nat) : decide (((n : Nat) : Int) < ((n : Nat) : Int)) = false := af (by omega)
theorem aF {k : Nat} (h : k < 4611686018427387904) : IntKind.i64.wrap (((k : Nat) : Int) + (1 : Int)) = (((k + 1 : Nat)) : Int) := by
 rw [dR] <;> omega
theorem DA (bs : ByteArray) : ∀ (d i : Nat) (r : List UInt8), bs.size - i = d → ByteArray.toList.loop bs i r = r.reverse ++ bs.data.toList.drop i
 | 0, i, r, h => by
   unfold ByteArray.toList.loop; rw [if_neg (by omega)]; have : bs.data.toList.drop i = [] := List.drop_of_length_le (by
     have : bs.data.toList.length = bs.size := Array.length_toList; omega)
   rw [this, List.append_nil]
 | d + 1, i, r, h => by
   unfold ByteArray.toList.loop; have dm : i < bs.size := by omega
   rw [if_pos dm, DA bs d (i + 1) _ (by omega)]; have ac2 : i < bs.data.toList.length := by
     have : bs.data.toList.length = bs.size := Array.length_toList; omega
   rw [List.reverse_cons, List.append_assoc, List.drop_eq_getElem_cons ac2]
   congr 2
   simp [ByteArray.get!, dm]
theorem DB (bs : ByteArray) : bs.toList = bs.data.toList := by
 unfold ByteArray.toList; rw [DA bs _ 0 [] rfl]; simp
theorem L4 {a b : ByteArray} : pE a b = true ↔ a = b := by
 unfold pE; rw [beq_iff_eq]
 constructor
 · intro h; rw [DB, DB] at h; obtain ⟨⟨x⟩⟩ := a; obtain ⟨⟨y⟩⟩ := b; exact congrArg (fun l => ByteArray.mk ⟨l⟩) h
 · intro h; rw [h]
theorem dG (a : ByteArray) : pE a a = true := L4.2 rfl
theorem wE {α : Type} (a : List α) (z : α) {k : Nat} (hk : k < a.length) : List.set (a.take k ++ List.replicate (a.length - k) z) k a[k] = a.take (k + 1) ++ List.replicate (a.length - (k + 1)) z := by
 have h1 : (a.take k).length = k := by simp; omega
 have h2 : a.length - k = (a.length - (k + 1)) + 1 := by omega
 rw [List.set_append, if_neg (by omega), h1, Nat.sub_self, h2, List.replicate_succ, List.set_cons_zero, List.take_succ_eq_append_getElem hk, List.append_assoc]; rfl
def wl {α : Type} (f : α → Nat) (xs : List α) : Nat := xs.foldr (fun x n => f x + n) 0
theorem DC {α : Type} (f : α → Nat) : wl f [] = 0 := rfl
theorem zS {α : Type} (f : α → Nat) (x : α) (xs : List α) : wl f (x :: xs) = f x + wl f xs := rfl
theorem Gp {α : Type} (f : α → Nat) (xs ys : List α) : wl f (xs ++ ys) = wl f xs + wl f ys := by
 induction xs with
 | nil => simp [wl]
 | cons x xs ih =>
   show f x + wl f (xs ++ ys) = f x + wl f xs + wl f ys; rw [ih]; omega
theorem uz {α : Type} (f : α → Nat) (xs : List α) {k : Nat} (hk : k < xs.length) : wl f (xs.take (k + 1)) = wl f (xs.take k) + f xs[k] := by
 rw [List.take_succ_eq_append_getElem hk, Gp]; rfl
theorem rP {α : Type} (f : α → Nat) (xs : List α) : ∀ x ∈ xs, f x ≤ wl f xs := by
 induction xs with
 | nil => intro x h; cases h
 | cons y xs ih =>
   intro x h; show f x ≤ f y + wl f xs; rcases List.mem_cons.1 h with rfl | h
   · omega
   · have := ih x h; omega
theorem qQ {α : Type} (f : α → Nat) (h : ∀ x, f x = 0) (xs : List α) : wl f xs = 0 := by
 induction xs with
 | nil => rfl
 | cons y xs ih => show f y + wl f xs = 0; rw [h, ih]
theorem qm {r : RT} {xs : List (aq r)} (h : zQ (.sl r) xs) : xs.length ≤ 9223372036854775807 := (P4.1 h).1
theorem vM {r : RT} {xs : List (aq r)} (h : zQ (.sl r) xs) : ∀ x ∈ xs, zR r x := (P4.1 h).2
theorem Jw {s : ByteArray} (h : zQ .str s) : ByteArray.size s ≤ 9223372036854775807 := RA.1 h
theorem ey {n : Int} (h : zQ (.int .i64) n) : -9223372036854775808 ≤ n ∧ n < 9223372036854775808 := wf_i64 (Rz.1 h)
def Left (o : Option (Int × Unit)) (wt : Nat) (left : Int) : Prop := ∃ m, o = some (m, ()) ∧ -1 ≤ m ∧ (0 ≤ m → (wt : Int) + m ≤ left)
theorem nM {X Y E F : Type} {r1 : X → Option (Sum X E)} {r2 : Y → Option (Sum Y F)} (n : Nat) (R : Nat → X → Y → Prop) (Q : E → F → Prop)
   (vL : ∀ k x y, k ≤ n → R k x y → (∃ e f, r1 x = some (.inr e) ∧ r2 y = some (.inr f) ∧ Q e f) ∨ (k < n ∧ ∃ x' y', r1 x = some (.inl x') ∧ r2 y = some (.inl y') ∧ R (k + 1) x' y')) {x : X} {y : Y} (h : R 0 x y) :
   ∃ e f, aE r1 x = some e ∧ aE r2 y = some f ∧ Q e f := by
 have key : ∀ d k x y, k + d = n → R k x y → ∃ e f, aE r1 x = some e ∧ aE r2 y = some f ∧ Q e f := by
   intro d
   induction d with
   | zero =>
     intro k x y hk hR; rcases vL k x y (by omega) hR with ⟨e, f, h1, h2, h3⟩ | ⟨dm, _⟩
     · exact ⟨e, f, by rw [kg, h1], by rw [kg, h2], h3⟩
     · omega
   | succ d ih =>
     intro k x y hk hR; rcases vL k x y (by omega) hR with ⟨e, f, h1, h2, h3⟩ | ⟨_, x', y', h1, h2, h3⟩
     · exact ⟨e, f, by rw [kg, h1], by rw [kg, h2], h3⟩
     · obtain ⟨e, f, g1, g2, g3⟩ := ih (k + 1) x' y' (by omega) h3; exact ⟨e, f, by rw [kg, h1]; exact g1, by rw [kg, h2]; exact g2, g3⟩
 exact key n 0 x y (by omega) h
end Go.TM
namespace Go.TM
open Go Go.RowKit
def ru (P : Program) : Nat → RT → List Field → Bool
 | _, .nil, [] => true
 | off, .cons t r, f :: fs => Nat.beq f.offset off && ((f.name != "_") && (P.plainKey f.type && (HR P f.type t && ru P (off + 1) r fs)))
 | _, _, _ => false
def AY (P : Program) (t : TypeId) (r : RT) : Bool :=
 match P.underlying t with
 | some (.struct fs) => !P.stoodInHeld t && (!P.eqGuardType P.depth t && ru P 0 r fs.toList)
 | _ => false
def RB (P : Program) (t : Nat) (r : Rec) : Bool := !r.eq || (match r.row with | some q => AY P t q | none => false)
theorem Jx {P : Program} {c : Cz} {st : St} {w w' : World} {t : TypeId} {ty : Ty} {d : Nat} {a b : CV} {x y : Value} {r : Bool} {q : RT} {l : List CV} (hk : HR P t ty = true) (hf : rB (.cons ty q) (a :: l) = true) (h : tZ a b = some r) (hx : kX c st w a x) (hy : kX c st w b y) :
   (Op.equalIn (d + 1) t x y).run P w' = .ok r w' ∧ rB q l = true := by
 cases ty with
 | sl _ => cases a <;> simp [rB] at hf
 | int k =>
   obtain ⟨e, he, h2⟩ := ga hk
   cases a <;> try (simp [rB] at hf; done)
   rename_i k1 n; simp only [rB, Bool.and_eq_true, decide_eq_true_eq] at hf
   cases b <;> try (simp [tZ] at h; done)
   rename_i k2 m; simp only [tZ] at h
   split at h
   · rename_i Ps; subst Ps
     cases h
     cases e <;> simp at h2
     have hx : x = .int k1 n := hx; have hy : y = .int k1 m := hy; subst hx hy; refine ⟨?_, hf.2⟩; rw [run_equalIn_int w' d t k1 _ n m he]
     congr 1
   · cases h
 | bool =>
   obtain ⟨e, he, h2⟩ := ga hk
   cases a <;> try (simp [rB] at hf; done)
   cases b <;> try (simp [tZ] at h; done)
   rename_i p q'; simp only [tZ, Option.some.injEq] at h; subst h
   cases e <;> simp at h2
   have hx : x = .bool p := hx; have hy : y = .bool q' := hy; subst hx hy; exact ⟨run_equalIn_bool' w' d t p q' he, hf⟩
 | str =>
   obtain ⟨e, he, h2⟩ := ga hk
   cases a <;> try (simp [rB] at hf; done)
   cases b <;> try (simp [tZ] at h; done)
   rename_i p q'; simp only [tZ, Option.some.injEq] at h; subst h
   cases e <;> simp at h2
   have hx : x = .string p := hx; have hy : y = .string q' := hy; subst hx hy; exact ⟨run_equalIn_string w' d t p q' he, hf⟩
theorem zT {P : Program} {c : Cz} {st : St} {w w' : World} {d : Nat} {us vs : Array Value} : (fs : List Field) → (off : Nat) → (q : RT) → (l m : List CV) → {b : Bool} → ru P off q fs = true → rB q l = true → nE l m = some b →
   fX c st w l (us.toList.drop off) → fX c st w m (vs.toList.drop off) → (Op.eqFields (d + 1) us vs fs).run P w' = .ok b w'
 | [], off, q, l, m, b, hf, oL, hc, hl, hm => by
   cases q with
   | cons t r => cases t <;> simp [ru] at hf
   | nil =>
     cases l with
     | cons _ _ => simp [rB] at oL
     | nil => cases m with
       | cons _ _ => simp [nE] at hc
       | nil =>
         simp only [nE, Option.some.injEq] at hc; subst hc; simp [Op.eqFields]
 | f :: fs, off, q, l, m, b, hf, oL, hc, hl, hm => by
   cases q with
   | nil => simp [ru] at hf
   | cons t r =>
     unfold ru at hf; rw [Bool.and_eq_true, Bool.and_eq_true, Bool.and_eq_true, Bool.and_eq_true] at hf; obtain ⟨h1, h2, h3, h4, h5⟩ := hf; have h1 := Nat.eq_of_beq_eq_true h1
     cases l with
     | nil => cases t <;> simp [rB] at oL
     | cons x l => cases m with
       | nil => simp [nE] at hc
       | cons y m =>
         simp only [nE] at hc
         cases he : tZ x y with
         | none => simp [he] at hc
         | some b1 =>
           cases hes : nE l m with
           | none => simp [he, hes] at hc
           | some b2 =>
             simp only [he, hes, Option.some.injEq] at hc; subst hc; have Kz : off < us.size := by
               have := hl.1; simp at this; omega
             have AE : off < vs.size := by
               have := hm.1; simp at this; omega
             have hdu : us.toList.drop off = us[off] :: us.toList.drop (off + 1) := by
               have : off < us.toList.length := by simpa using Kz
               rw [List.drop_eq_getElem_cons this]; simp
             have Xb : vs.toList.drop off = vs[off] :: vs.toList.drop (off + 1) := by
               have : off < vs.toList.length := by simpa using AE
               rw [List.drop_eq_getElem_cons this]; simp
             rw [hdu] at hl; rw [Xb] at hm; have rx := hl.2 0 x us[off] rfl rfl; have ry := hm.2 0 y vs[off] rfl rfl; obtain ⟨k1, k2⟩ := Jx (w' := w') (d := d) h4 oL he rx ry; have rl : fX c st w l (us.toList.drop (off + 1)) := ⟨by have := hl.1; simpa using this, fun i a v ha hv => hl.2 (i + 1) a v (by simpa using ha) (by simpa using hv)⟩; have rm : fX c st w m (vs.toList.drop (off + 1)) := ⟨by have := hm.1; simpa using this, fun i a v ha hv => hm.2 (i + 1) a v (by simpa using ha) (by simpa using hv)⟩; have ih := zT (w' := w') (d := d) fs (off + 1) r l m h5 k2 hes rl rm; unfold Op.eqFields; rw [if_pos (by simpa using h2)]; have p1 : (part f.type us f.offset).run P w' = .ok us[off] w' := run_part_plain w' h3 (by rw [h1]; exact Array.getElem?_eq_getElem Kz); have p2 : (part f.type vs f.offset).run P w' = .ok vs[off] w' := run_part_plain w' h3 (by rw [h1]; exact Array.getElem?_eq_getElem AE); simp only [Sem.run_bind, p1, p2, k1, Result.andThen_ok]
             cases b1
             · simp
             · simp [ih]
theorem SI {P : Program} {tr : Tr} (h : tr.all (RB P) = true) : xq P (la tr) := by
 intro t ht c st w l m us vs b op ox oy oL hc hl hm w'; have ht : (match tr.find t with | some r => r.eq | none => false) = true := ht
 cases hf : tr.find t with
 | none => rw [hf] at ht; cases ht
 | some r =>
   rw [hf] at ht; have ht : r.eq = true := ht; have h1 := Tr.zO tr h hf; unfold RB at h1; rw [ht, Bool.not_true, Bool.false_or] at h1; unfold lZ.fits at oL; have iP : (la tr).row t = r.row := by show (match tr.find t with | some r => r.row | none => none) = _; rw [hf]
   rw [iP] at oL
   cases hq : r.row with
   | none => rw [hq] at h1; cases h1
   | some q =>
     rw [hq] at h1 oL; have h1 : AY P t q = true := h1; have oL : rB q l = true := oL; unfold AY at h1
     split at h1
     · rename_i fs hu; rw [Bool.and_eq_true, Bool.and_eq_true, Bool.not_eq_true', Bool.not_eq_true'] at h1; have hfo : P.fieldsOf t = fs := by unfold Program.fieldsOf; rw [hu]
       refine ⟨run_eqGuard_agg w' op t ox oy us vs h1.2.1, ?_⟩; show (Op.equalIn (9999 + 1) t (.agg us) (.agg vs)).run P w' = .ok b w'; rw [run_equalIn_struct w' 9999 t us vs (by rw [hfo]; exact hu) h1.1, hfo]; exact zT (d := 9998) fs.toList 0 q l m h1.2.2 oL hc (by simpa using hl) (by simpa using hm)
     · cases h1
end Go.TM
namespace Go.TM
open Go Go.RowKit
def HX (n : Nat) (ps : List AP) (x : aq (az (ps.map some))) : St := bj (start n ps x) (some 0) (.one .eI)
def KX (n : Nat) (r : RT) (xs : List (aq r)) (ps : List AP) (x : aq (az (ps.map some))) : St := bj (start n ps x) (some 0) (.one (.nn r xs))
theorem HY {P : Program} {tr : Tr} (hT : tr.all (xP P) = true) (hE : xq P (la tr)) (hm : P.follows .mixedOrders = true) {S : kK} (hS : ma P S) {D : kP} {f : FuncId} {fn : Func} {code : Code} {n : Nat} {r : RT} {qs : List AP} {rs : List RP}
   {L : nc (aq (dj rs (bU (.val false [.shr r] :: qs))))} {t : aq (az ((AP.val false [.shr r] :: qs).map some)) → Option (aq (dj rs (bU (.val false [.shr r] :: qs))))}
   (hf : P.funcs[f]? = some fn) (hb : fn.body = some code) (ql : Ry (la tr) D fn code n (.val false [.shr r] :: qs) rs = true) (HT : (fn.name == "runtime.NumGoroutine") = false)
   (hL : ∀ (w0 : World) (mu : Mu) (y : aq (dj rs (bU (.val false [.shr r] :: qs)))), mJ (.val false [.shr r] :: qs) mu → ∀ p ∈ ee code, mT P w0 mu n L y p.1 p.2)
   (Ob : ∀ z, fD (la tr) S D L code (HX n (.val false [.shr r] :: qs) (([] : List (aq r)), z)) (Ci rs (.val false [.shr r] :: qs)) = t (([] : List (aq r)), z))
   (hnn : ∀ x, fD (la tr) S D L code (KX n r x.1 (.val false [.shr r] :: qs) x) (Ci rs (.val false [.shr r] :: qs)) = t x) : qI P f (mA (.val false [.shr r] :: qs) rs t) := by
 unfold Ry at ql; rw [Bool.and_eq_true, Bool.and_eq_true, Bool.and_eq_true, Bool.and_eq_true] at ql; obtain ⟨h1, h2, h3, h4, h5⟩ := ql; refine ⟨HM (jl hT) hE hS hf hb (Nat.eq_of_beq_eq_true h1) (Nat.le_of_ble_eq_true h2) h3 (fun tm => xk tm _ _ h4) (fun w0 mu y hs => qP code (hL w0 mu y hs))
   (fun w0 mu => rq (jl hT) hE hm (nI (jl hT) hE hS w0 mu n)) (sL code h5) (fun w0 mu c a w x hR hn => ?_), fn, hf, HT, by rw [hb]; rfl⟩
 have NS : 0 < n := by
   have := Nat.le_of_ble_eq_true h2; simp at this; omega
 have tn := hR.gJ 0; have hg : da (start n (.val false [.shr r] :: qs) x) 0 = .one (.shr r x.1) := rfl; rw [hg] at tn; have G4 : cw w c.ok (.sl r) (a.eval (.tmp 0)) x.1 := tn; have h0 : 0 < a.tmps.size := by omega
 by_cases hv : a.eval (.tmp 0) = .slice none 0 0
 · refine ⟨c, HX n (.val false [.shr r] :: qs) x, ?_, ?_⟩
   · have := hR.bj (d := some 0) (v := .one .eI) (u := a.eval (.tmp 0)) hv (fun k e => by cases e; exact h0)
     rwa [C4 a 0 _ h0 rfl] at this
   · have hx : x.1 = ([] : List (aq r)) := by
       rcases (oE _ _ _ _ _).1 G4 with ⟨_, h⟩ | ⟨_, _, h, _⟩
       · exact h
       · rw [hv] at h; cases h
     obtain ⟨x1, z⟩ := x; simp only at hx; subst hx; exact Ob z
 · refine ⟨c, KX n r x.1 (.val false [.shr r] :: qs) x, ?_, hnn x⟩; have := hR.bj (d := some 0) (v := .one (.nn r x.1)) (u := a.eval (.tmp 0)) ⟨G4, hv⟩ (fun k e => by cases e; exact h0)
   rwa [C4 a 0 _ h0 rfl] at this
end Go.TM
namespace Go.TM
open Go Go.RowKit
section
variable {R : Type} (T : lZ) (S : kK) (D : kP) (L : nc R)
noncomputable def DD : Nat → Code → St → (St → Option R) → (Ex → St → Option R) → Option R
 | 0, _, st, g, _ => g st
 | n + 1, .seq a b, st, g, k => fD T S D L a st fun e bh => match e with
   | .normal => DD n b bh g k
   | e => k e bh
 | _, _, _, _, _ => none
end
def wF : Nat → Code → Code
 | 0, c => c
 | n + 1, .seq _ b => wF n b
 | _, _ => .skip
theorem AZ {n : Nat} : (m : Nat) → (c : Code) → fM n c = true → fM n (wF m c) = true
 | 0, _, h => h
 | m + 1, c, h => by
   cases c with
   | seq a b =>
     unfold fM at h; rw [Bool.and_eq_true] at h; exact AZ m b h.2
   | _ => rfl
theorem wG {ok : Nat → Code → Prop} : (m : Nat) → (c : Code) → ej ok c → ej ok (wF m c)
 | 0, _, h => h
 | m + 1, c, h => by
   cases c with
   | seq a b => exact wG m b h.2
   | _ => exact trivial
theorem yh {ok : Nat → Array Oper → Prop} : (m : Nat) → (c : Code) → eN ok c → eN ok (wF m c)
 | 0, _, h => h
 | m + 1, c, h => by
   cases c with
   | seq a b => exact yh m b h.2
   | _ => exact trivial
theorem DE {R : Type} {P : Program} {T : lZ} {S : kK} {D : kP} {L : nc R} {w0 : World} {mu : Mu} {n : Nat} {r : R} {ok : Nat → Array Oper → Prop} (EF : sI P T S w0 mu n) (hD : rj R P T S D w0 mu n ok)
   {k : Ex → St → Option R} {Q : Exit → Act → World → Prop} (hk : KH w0 mu n r k Q) {g : St → Option R} : (m : Nat) → (cd : Code) → fM n cd = true → ej (mT P w0 mu n L r) cd → eN ok cd →
   (∀ {c : Cz} {st : St} {a : Act} {w : World}, Rel w0 mu c st a w → a.tmps.size = n → g st = some r → (wF m cd).wp P Q a w) →
   {c : Cz} → {st : St} → {a : Act} → {w : World} → Rel w0 mu c st a w → a.tmps.size = n → DD T S D L m cd st g k = some r → cd.wp P Q a w
 | 0, cd, _, _, _, hg, c, st, a, w, h, hn, hv => hg h hn hv
 | m + 1, cd, hd, hL, hw, hg, c, st, a, w, h, hn, hv => by
   cases cd with
   | seq x y =>
     have hv : (fD T S D L x st fun e bh => match e with
       | .normal => DD T S D L m y bh g k
       | e => k e bh) = some r := hv
     unfold fM at hd; rw [Bool.and_eq_true] at hd; refine wp_seq (zv EF hD x hd.1 hL.1 hw.1 (fun {e} {c} {st} {a} {w} h1 h2 h3 => ?_) h hn hv)
     cases e with
     | normal => exact DE EF hD hk m y hd.2 hL.2 hw.2 hg h1 h2 h3
     | exit m => exact hk h1 h2 h3
     | ret => exact hk h1 h2 h3
   | _ => have hv : (none : Option R) = some r := hv; cases hv
def XP {R : Type} (P : Program) (w0 : World) (mu : Mu) (n : Nat) (k : Ex → St → Option R) (r : R) (b : Code) (hp : List (Option AP)) (g : aq (az hp) → Option R) : Prop :=
 ∀ x, g x = some r → ∀ {Q : Exit → Act → World → Prop}, KH w0 mu n r k Q → ∀ {c : Cz} {a : Act} {w : World}, Rel w0 mu c (nK hp x) a w → a.tmps.size = n → b.wp P Q a w
structure Pt (tr : Tr) (S : kK) (D : kP) (n : Nat) (ps : List AP) {R : Type} (L : nc R) (k : Ex → St → Option R) (P : Program) (b : Code) (hp : List (Option AP)) (g : aq (az hp) → Option R) : Prop where
 ok : ∀ (w0 : World) (mu : Mu) (r : R), mJ ps mu → fM n b = true → eN (fun id ops => Du ops (D id) = true) b → ej (mT P w0 mu n L r) b → XP P w0 mu n k r b hp g
theorem Oc {P : Program} {tr : Tr} (hT : tr.all (xP P) = true) (hE : xq P (la tr)) (hm : P.follows .mixedOrders = true) {S : kK} (hS : ma P S) {D : kP} {n : Nat} {ps : List AP} {R : Type} {L : nc R} {k : Ex → St → Option R} {b : Code} {hp : List (Option AP)} {g : aq (az hp) → Option R}
   (h : ∀ x, fD (la tr) S D L b (nK hp x) k = g x) : Pt tr S D n ps L k P b hp g :=
 ⟨fun w0 mu _ _ hd hw hL x hx _ hk _ _ _ hr hn => zv (nI (jl hT) hE hS w0 mu n) (rq (jl hT) hE hm (nI (jl hT) hE hS w0 mu n)) b hd hL hw hk hr hn ((h x).trans hx)⟩
theorem P5 {P : Program} {tr : Tr} (hT : tr.all (xP P) = true) (hE : xq P (la tr)) (hm : P.follows .mixedOrders = true) {S : kK} (hS : ma P S) {D : kP} {n : Nat} {ps : List AP} {R : Type} {L : nc R} {k : Ex → St → Option R} {b b' : Code} {hp j3 : List (Option AP)} {g : aq (az hp) → Option R} {g' : aq (az j3) → Option R} {m : Nat}
   (hb : wF m b = b') (oL : fN ps j3 = true) (h : ∀ x, DD (la tr) S D L m b (nK hp x) (fun st => (zK st j3).bind g') k = g x) (hs : Pt tr S D n ps L k P b' j3 g') : Pt tr S D n ps L k P b hp g :=
 ⟨fun w0 mu r V7 hd hw hL x hx Q hk c a w hr hn => DE (nI (jl hT) hE hS w0 mu n) (rq (jl hT) hE hm (nI (jl hT) hE hS w0 mu n)) hk m b hd hL hw (fun {c} {st} {a} {w} h1 h2 h3 => by
   obtain ⟨y, hy, h4⟩ := Option.bind_eq_some_iff.1 h3; obtain ⟨c', h5⟩ := AT h1 V7 oL hy; rw [hb]; exact hs.ok w0 mu r V7 (hb ▸ AZ m b hd) (hb ▸ yh m b hw) (hb ▸ wG m b hL) y h4 hk h5 h2) hr hn ((h x).trans hx)⟩
theorem HZ {P : Program} {tr : Tr} (hT : tr.all (xP P) = true) (hE : xq P (la tr)) (hm : P.follows .mixedOrders = true) {S : kK} (hS : ma P S) {D : kP} {f : FuncId} {fn : Func} {code b' : Code} {n m : Nat} {ps : List AP} {rs : List RP}
   {L : nc (aq (dj rs (bU ps)))} {t : aq (az (ps.map some)) → Option (aq (dj rs (bU ps)))} {j3 : List (Option AP)} {g' : aq (az j3) → Option (aq (dj rs (bU ps)))}
   (hf : P.funcs[f]? = some fn) (hb : fn.body = some code) (ql : Ry (la tr) D fn code n ps rs = true) (HT : (fn.name == "runtime.NumGoroutine") = false)
   (hL : ∀ (w0 : World) (mu : Mu) (y : aq (dj rs (bU ps))), mJ ps mu → ∀ p ∈ ee code, mT P w0 mu n L y p.1 p.2)
   (hr : wF m code = b') (oL : fN ps j3 = true) (Jp : ∀ x, DD (la tr) S D L m code (start n ps x) (fun st => (zK st j3).bind g') (Ci rs ps) = t x)
   (hs : Pt tr S D n ps L (Ci rs ps) P b' j3 g') : qI P f (mA ps rs t) := by
 unfold Ry at ql; rw [Bool.and_eq_true, Bool.and_eq_true, Bool.and_eq_true, Bool.and_eq_true] at ql; obtain ⟨h1, h2, h3, h4, h5⟩ := ql; refine ⟨fun c w mu lc eg args A y hH hA jb ho => ?_, fn, hf, HT, by rw [hb]; rfl⟩; unfold mA at jb
 cases hx : fF ps eg with
 | none => rw [hx] at jb; cases jb
 | some x =>
   rw [hx] at jb; simp only [Option.some.injEq] at jb; subst jb; have Cs : t x = some y := ho; obtain ⟨Cr, c', hmm, gI, Dq, KS, Dp, LQ, hR⟩ := HL hH hA hx (Nat.le_of_ble_eq_true h2); refine calls_of_wp hf hb ?_; have hn := Nat.eq_of_beq_eq_true h1; rw [hn]; have mm : (args ++ Array.replicate (n - args.size) undef).size = n := by
     have : args.size ≤ n := by
       have h6 := Nat.le_of_ble_eq_true h2; have h7 := (xh ps 0 eg args.toList hx hA).2.1; simp at h7; omega
     simp; omega
   have hlp := qP code (hL w Cr y Dq); have hdr := sL code h5; refine DE (nI (jl hT) hE hS w Cr n) (rq (jl hT) hE hm (nI (jl hT) hE hS w Cr n)) (k := Ci rs ps) (r := y) (fun {e} {c1} {AD} {a1} {w1} q1 q2 q3 => ?_) m code h3 hlp hdr (fun {c1} {AD} {a1} {w1} q1 q2 q3 => ?_) hR mm ((Jp x).trans Cs)
   · obtain ⟨he, v, pJ, c2, LM, hV, hX⟩ := Jo (P := P) (jl hT) hmm gI q1 (xk a1.tmps _ _ h4) LQ.symm (by rw [← Dp]; simp) KS q3; have De : a1.defers = [] ∧ ∃ v, (results fn a1.tmps).run P w1 = .ok v w1 ∧ (∃ v', Ending.returned v = .returned v' ∧ ∃ c', By w mu c' w1 ∧ rJ c' w1 (gv rs (bU ps) y).1 v' ∧ iR c' w1 lc 0 eg args.toList (mX ps (gv rs (bU ps) y).2)) :=
       ⟨q1.plain, v, pJ, v, rfl, c2, LM, hV, hX⟩
     rcases he with rfl | rfl <;> exact De
   · obtain ⟨z, hz, q4⟩ := Option.bind_eq_some_iff.1 q3; obtain ⟨c2, q5⟩ := AT q1 Dq oL hz; rw [hr]; refine hs.ok w Cr y Dq (hr ▸ AZ m code h3) (hr ▸ yh m code hdr) (hr ▸ wG m code hlp) z q4 (fun {e} {c1} {AD} {a1} {w1} q1 q2 q3 => ?_) q5 q2; obtain ⟨he, v, pJ, c2, LM, hV, hX⟩ := Jo (P := P) (jl hT) hmm gI q1 (xk a1.tmps _ _ h4) LQ.symm (by rw [← Dp]; simp) KS q3; have De : a1.defers = [] ∧ ∃ v, (results fn a1.tmps).run P w1 = .ok v w1 ∧ (∃ v', Ending.returned v = .returned v' ∧ ∃ c', By w mu c' w1 ∧ rJ c' w1 (gv rs (bU ps) y).1 v' ∧ iR c' w1 lc 0 eg args.toList (mX ps (gv rs (bU ps) y).2)) :=
       ⟨q1.plain, v, pJ, v, rfl, c2, LM, hV, hX⟩
     rcases he with rfl | rfl <;> exact De
end Go.TM
namespace Go.TM
open Go Go.RowKit
noncomputable section
structure TK (P : Program) where
 tr : Tr
 hT : tr.all (xP P) = true
 hE : xq P (la tr)
 hm : P.follows .mixedOrders = true
structure KF (P : Program) where
 f : FuncId
 m : Pm × Pm × Pm
 Bo : vW
 ok : qI P f Bo
def KF.sl {P : Program} (k : KF P) : Nat × (Pm × Pm × Pm × vW) := (k.f, (k.m.1, k.m.2.1, k.m.2.2, k.Bo))
def SJ {P : Program} : List (KF P) → SG
 | [] => []
 | k :: l => k.sl :: SJ l
theorem DF {P : Program} : (l : List (KF P)) → ma P (yf (SJ l))
 | [] => Oa
 | k :: l => LZ k.ok (DF l)
def kw {P : Program} {f : FuncId} {s : vW} (h : qI P f s) : KF P := ⟨f, (.shr, .shr, .shr), s, h⟩
def kv {P : Program} (m : Pm × Pm × Pm) {f : FuncId} {s : vW} (h : qI P f s) : KF P := ⟨f, m, s, h⟩
structure LD where
 i : Nat
 b : Code
 hp : List (Option AP)
 e : List (Option AP)
 q : List (Option AP)
 r : aq (az hp) → Option (Sum (aq (az hp)) (Sum (aq (az e)) (aq (az q))))
def LD.Ok (l : LD) (P : Program) (n : Nat) (ps : List AP) : Prop :=
 ∀ {R : Type} (L : nc R) (y : R) (w0 : World) (mu : Mu), (∀ st k, L l.i l.b st k = AU l.hp l.e l.q l.r st k) → mJ ps mu → mT P w0 mu n L y l.i l.b
structure SK (P : Program) (n : Nat) (ps : List AP) where
 d : LD
 ok : d.Ok P n ps
def wH {P : Program} {n : Nat} {ps : List AP} {R : Type} : List (SK P n ps) → nc R
 | [] => Ju
 | l :: ls => fun id b st k => bif Nat.beq id l.d.i then AU l.d.hp l.d.e l.d.q l.d.r st k else wH ls id b st k
def Fy {P : Program} {n : Nat} {ps : List AP} : List (SK P n ps) → List (Nat × Code)
 | [] => []
 | l :: ls => (l.d.i, l.d.b) :: Fy ls
def Jy {P : Program} {n : Nat} {ps : List AP} : List (SK P n ps) → Bool
 | [] => true
 | l :: ls => ls.all (fun m => !Nat.beq m.d.i l.d.i) && Jy ls
theorem Od {P : Program} {n : Nat} {ps : List AP} {R : Type} : (ls : List (SK P n ps)) → Jy ls = true → ∀ l ∈ ls, ∀ st (k : Ex → St → Option R), wH ls l.d.i l.d.b st k = AU l.d.hp l.d.e l.d.q l.d.r st k
 | [], _, l, h => by cases h
 | m :: ls, hb, l, h => by
   intro st k; unfold Jy at hb; rw [Bool.and_eq_true] at hb; rcases List.mem_cons.1 h with rfl | h
   · show (bif Nat.beq l.d.i l.d.i then _ else _) = _; rw [Nat.beq_refl]; rfl
   · show (bif Nat.beq l.d.i m.d.i then _ else wH ls l.d.i l.d.b st k) = _; have := List.all_eq_true.1 hb.1 l h; rw [Bool.not_eq_true'] at this; rw [this]; exact Od ls hb.2 l h st k
theorem KY {P : Program} {n : Nat} {ps : List AP} : (ls : List (SK P n ps)) → ∀ p ∈ Fy ls, ∃ l ∈ ls, p = (l.d.i, l.d.b)
 | [], p, h => by cases h
 | m :: ls, p, h => by
   rcases List.mem_cons.1 h with rfl | h
   · exact ⟨m, List.mem_cons_self, rfl⟩
   · obtain ⟨l, h1, h2⟩ := KY ls p h; exact ⟨l, List.mem_cons_of_mem _ h1, h2⟩
theorem Jz {P : Program} {n : Nat} {ps : List AP} {R : Type} {ls : List (SK P n ps)} (hb : Jy ls = true) {c : Code} (hc : ee c = Fy ls) (y : R) (w0 : World) (mu : Mu) (hs : mJ ps mu) : ∀ p ∈ ee c, mT P w0 mu n (wH ls) y p.1 p.2 := by
 rw [hc]; intro p hp; obtain ⟨l, hl, rfl⟩ := KY ls p hp; exact l.ok (wH ls) y w0 mu (Od ls hb l hl) hs
structure FC (P : Program) where
 t : TK P
 l : List (KF P)
 D : kP
 fn : Func
 ps : List AP
abbrev FC.code {P : Program} (F : FC P) : Code := N9 F.fn
abbrev FC.S {P : Program} (F : FC P) : kK := yf (SJ F.l)
abbrev FC.T {P : Program} (F : FC P) : lZ := la F.t.tr
abbrev FC.KL {P : Program} (F : FC P) : Type := SK P F.fn.ntmps F.ps
abbrev FC.Ok {P : Program} (F : FC P) (l : LD) : Prop := l.Ok P F.fn.ntmps F.ps
abbrev FC.fin {P : Program} (F : FC P) (rs : List RP) : Ex → St → Option (aq (dj rs (bU F.ps))) := Ci rs F.ps
def FC.lp {P : Program} (F : FC P) (j : Nat) : Code := P1 F.code j
theorem FC.kl {P : Program} (F : FC P) {l : LD} (ls : List F.KL) (h1 : (HU F.D F.ps l.hp l.e l.q F.fn.ntmps l.b && Jy ls) = true) (h2 : ee l.b = Fy ls)
   (ht : ∀ x, fD F.T F.S F.D (wH ls) l.b (nK l.hp x) (Dt l.i l.hp l.e l.q) = l.r x) : F.Ok l := by
 rw [Bool.and_eq_true] at h1; exact fun _ _ w0 mu hL hs => L0 F.t.hT F.t.hE F.t.hm (DF F.l) hs h1.1 (fun z => Jz h1.2 h2 z w0 mu hs) ht hL
theorem FC.mK {P : Program} (F : FC P) {l : LD} (h : ∀ x, (HU F.D F.ps l.hp l.e l.q F.fn.ntmps l.b && (ee l.b).isEmpty, fD F.T F.S F.D Ju l.b (nK l.hp x) (Dt l.i l.hp l.e l.q)) = (true, l.r x)) : F.Ok l := by
 have h1 := congrArg Prod.fst (h (th _)); have h1 : (HU F.D F.ps l.hp l.e l.q F.fn.ntmps l.b && (ee l.b).isEmpty) = true := h1; rw [Bool.and_eq_true] at h1; have ht : ∀ x, fD F.T F.S F.D Ju l.b (nK l.hp x) (Dt l.i l.hp l.e l.q) = l.r x := fun x => congrArg Prod.snd (h x)
 have g : F.Ok l := F.kl [] (by rw [h1.1]; rfl) (List.isEmpty_iff.1 h1.2) ht; exact @g
abbrev FC.ac4 {P : Program} (F : FC P) (rs : List RP) (t : P0 (az (F.ps.map some)) (Option (aq (dj rs (bU F.ps))))) : vW := mA F.ps rs (xj (az (F.ps.map some)) t)
abbrev FC.Kn {P : Program} (F : FC P) (rs : List RP) (f : FuncId) (t : P0 (az (F.ps.map some)) (Option (aq (dj rs (bU F.ps))))) : Prop := qI P f (F.ac4 rs t)
def FC.RC {P : Program} (F : FC P) (rs : List RP) : Bool := F.fn.body.isSome && (Ry F.T F.D F.fn F.code F.fn.ntmps F.ps rs && !(F.fn.name == "runtime.NumGoroutine"))
theorem FC.JA {P : Program} {F : FC P} {rs : List RP} (h : F.RC rs = true) : F.fn.body = some F.code ∧ Ry F.T F.D F.fn F.code F.fn.ntmps F.ps rs = true ∧ (F.fn.name == "runtime.NumGoroutine") = false := by
 unfold FC.RC at h; rw [Bool.and_eq_true, Bool.and_eq_true, Bool.not_eq_true'] at h; obtain ⟨h1, h2, h3⟩ := h; refine ⟨?_, h2, h3⟩; obtain ⟨c, hc⟩ := Option.isSome_iff_exists.1 h1; unfold FC.code N9; rw [hc]
theorem FC.kf {P : Program} (F : FC P) {rs : List RP} {f : FuncId} {t : P0 (az (F.ps.map some)) (Option (aq (dj rs (bU F.ps))))} (ls : List F.KL) (hf : P.funcs[f]? = some F.fn) (h1 : (F.RC rs && Jy ls) = true) (h2 : ee F.code = Fy ls)
   (ht : ∀ x, fD F.T F.S F.D (wH ls) F.code (start F.fn.ntmps F.ps x) (F.fin rs) = xj (az (F.ps.map some)) t x) : F.Kn rs f t := by
 rw [Bool.and_eq_true] at h1; obtain ⟨hb, hc, hn⟩ := F.JA h1.1; exact P2 F.t.hT F.t.hE F.t.hm (DF F.l) (D := F.D) (L := wH ls) hf hb hc hn (fun w0 mu y hs => Jz h1.2 h2 y w0 mu hs) ht
theorem FC.mY {P : Program} (F : FC P) {rs : List RP} {f : FuncId} {t : P0 (az (F.ps.map some)) (Option (aq (dj rs (bU F.ps))))} (hf : P.funcs[f]? = some F.fn)
   (h : ∀ x, (F.RC rs && (ee F.code).isEmpty, fD F.T F.S F.D Ju F.code (start F.fn.ntmps F.ps x) (F.fin rs)) = (true, xj (az (F.ps.map some)) t x)) : F.Kn rs f t := by
 have h1 := congrArg Prod.fst (h (th _)); have h1 : (F.RC rs && (ee F.code).isEmpty) = true := h1; rw [Bool.and_eq_true] at h1; exact F.kf [] hf (by rw [h1.1]; rfl) (List.isEmpty_iff.1 h1.2) fun x => congrArg Prod.snd (h x)
theorem FC.kf1 {P : Program} (F : FC P) {rs : List RP} {f : FuncId} {t : P0 (az (F.ps.map some)) (Option (aq (dj rs (bU F.ps))))} (hf : P.funcs[f]? = some F.fn) (h1 : (F.RC rs && (ee F.code).isEmpty) = true)
   (ht : ∀ x, fD F.T F.S F.D Ju F.code (start F.fn.ntmps F.ps x) (F.fin rs) = xj (az (F.ps.map some)) t x) : F.Kn rs f t := by
 rw [Bool.and_eq_true] at h1; exact F.kf [] hf (by rw [h1.1]; rfl) (List.isEmpty_iff.1 h1.2) ht
theorem FC.kfn {P : Program} (F : FC P) {rs : List RP} {f : FuncId} {t : P0 (az (F.ps.map some)) (Option (aq (dj rs (bU F.ps))))} (ls : List F.KL) (hf : P.funcs[f]? = some F.fn) (r : RT) (qs : List AP) (hq : F.ps = .val false [.shr r] :: qs) (h1 : (F.RC rs && Jy ls) = true) (h2 : ee F.code = Fy ls)
   (h4 : ∀ x, fD F.T F.S F.D (wH ls) F.code (bj (start F.fn.ntmps F.ps (hq ▸ (([] : List (aq r)), x))) (some 0) (.one .eI)) (F.fin rs) = xj (az (F.ps.map some)) t (hq ▸ (([] : List (aq r)), x)))
   (h5 : ∀ x, fD F.T F.S F.D (wH ls) F.code (bj (start F.fn.ntmps F.ps (hq ▸ x)) (some 0) (.one (.nn r x.1))) (F.fin rs) = xj (az (F.ps.map some)) t (hq ▸ x)) : F.Kn rs f t := by
 rw [Bool.and_eq_true] at h1; obtain ⟨hb, hc, hn⟩ := F.JA h1.1; obtain ⟨tt, l, D, fn, ps⟩ := F; simp only at hq; subst hq; exact HY tt.hT tt.hE tt.hm (DF l) (D := D) (L := wH ls) hf hb hc hn (fun w0 mu y hs => Jz h1.2 h2 y w0 mu hs) h4 h5
theorem FC.ac6 {P : Program} (F : FC P) {R : Type} {k : Ex → St → Option R} {b : Code} {hp : List (Option AP)} {g : aq (az hp) → Option R} (h : ∀ x, fD F.T F.S F.D Ju b (nK hp x) k = g x) : Pt F.t.tr F.S F.D F.fn.ntmps F.ps Ju k P b hp g :=
 Oc F.t.hT F.t.hE F.t.hm (DF F.l) h
theorem FC.ac7 {P : Program} (F : FC P) {R : Type} {k : Ex → St → Option R} {b b' : Code} {hp j3 : List (Option AP)} {g : aq (az hp) → Option R} {g' : aq (az j3) → Option R} (m : Nat) (hs : Pt F.t.tr F.S F.D F.fn.ntmps F.ps Ju k P b' j3 g')
   (hb : wF m b = b') (oL : fN F.ps j3 = true) (h : ∀ x, DD F.T F.S F.D Ju m b (nK hp x) (fun st => (zK st j3).bind g') k = g x) : Pt F.t.tr F.S F.D F.fn.ntmps F.ps Ju k P b hp g :=
 P5 F.t.hT F.t.hE F.t.hm (DF F.l) hb oL h hs
theorem FC.kfs {P : Program} (F : FC P) {rs : List RP} {f : FuncId} {t : P0 (az (F.ps.map some)) (Option (aq (dj rs (bU F.ps))))} (hf : P.funcs[f]? = some F.fn) (m : Nat) {b' : Code} {j3 : List (Option AP)} {g' : aq (az j3) → Option (aq (dj rs (bU F.ps)))} (hs : Pt F.t.tr F.S F.D F.fn.ntmps F.ps Ju (F.fin rs) P b' j3 g')
   (h1 : (F.RC rs && ((ee F.code).isEmpty && fN F.ps j3)) = true) (hr : wF m F.code = b') (ht : ∀ x, DD F.T F.S F.D Ju m F.code (start F.fn.ntmps F.ps x) (fun st => (zK st j3).bind g') (F.fin rs) = xj (az (F.ps.map some)) t x) : F.Kn rs f t := by
 rw [Bool.and_eq_true, Bool.and_eq_true] at h1; obtain ⟨hb, hc, hn⟩ := F.JA h1.1; exact HZ F.t.hT F.t.hE F.t.hm (DF F.l) (D := F.D) (L := Ju) hf hb hc hn (fun _ _ _ _ => by rw [List.isEmpty_iff.1 h1.2.1]; exact List.forall_mem_nil _) hr h1.2.2 ht hs
def sp : List (Nat × AP) → Nat → List (Option AP)
 | [], k => nn k
 | (g, p) :: l, k => nn g ++ some p :: sp l k
abbrev vl (l : List OP) : AP := .val false l
abbrev va (l : List OP) : AP := .val true l
abbrev Pl.a (i : Nat) (p : Pl) : Pl := .op i .any p
abbrev Pl.t (i : Nat) (p : Pl) : Pl := .op i .take p
abbrev Pl.o (i : Nat) (p : Pl) : Pl := .op i .one p
abbrev Pl.l (i : Nat) (p : Pl) : Pl := .op i .last p
def dr (i : Nat) (p : Pl) (D : kP := gj) : kP := fun id => bif Nat.beq id i then p else D id
end
end Go.TM
