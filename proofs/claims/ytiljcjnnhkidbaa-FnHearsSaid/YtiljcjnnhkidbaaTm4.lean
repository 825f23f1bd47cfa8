/- A machine over trees: an evaluator of the code, and that what it finds is so; part 4. -/
import Derived.Test.YtiljcjnnhkidbaaTm3
import Derived.Carry
import Derived.ChangeArms
import Derived.ChangeOld
import Derived.OpenShut
import Derived.Laws.StructEq
import Derived.ChangeKeysEq
namespace Go.TM
open Go Go.RowKit Go.ChangeShapes
def RT.app : RT → RT → RT
 | .nil, s => s
 | .cons t r, s => .cons t (r.app s)
def N1 : (r s : RT) → ak r → ak s → ak (r.app s)
 | .nil, _, _, y => y
 | .cons _ r, s, x, y => (x.1, N1 r s x.2 y)
mutual
def BS : (t : Ty) → den t → Prop
 | .int k, n => (Lit.int k n).wf = true
 | .bool, _ => True
 | .str, s => ByteArray.size s ≤ maxLen
 | .sl r, xs => (HZ xs).length ≤ maxLen ∧ ∀ x ∈ HZ xs, AQ r x
def AQ : (r : RT) → ak r → Prop
 | .nil, _ => True
 | .cons t r, x => BS t x.1 ∧ AQ r x.2
end
theorem AR (x : ak .nil) : AQ .nil x := AQ.eq_1 x ▸ trivial
theorem l8 {t : Ty} {r : RT} {x : ak (.cons t r)} : AQ (.cons t r) x ↔ BS t x.1 ∧ AQ r x.2 := AQ.eq_2 t r x ▸ Iff.rfl
theorem Uw {k : IntKind} {n : Int} : BS (.int k) n ↔ (Lit.int k n).wf = true := BS.eq_1 k n ▸ Iff.rfl
theorem QT {b : Bool} : BS .bool b := BS.eq_2 b ▸ trivial
theorem Ux {s : ByteArray} : BS .str s ↔ ByteArray.size s ≤ maxLen := BS.eq_3 s ▸ Iff.rfl
theorem Uy {r : RT} {xs : List (ak r)} : BS (.sl r) xs ↔ (xs.length ≤ maxLen ∧ ∀ x ∈ xs, AQ r x) := BS.eq_4 r xs ▸ Iff.rfl
theorem RT.yn : (r s : RT) → (r.app s).width = r.width + s.width
 | .nil, s => by simp [RT.app, RT.width]
 | .cons t r, s => by simp [RT.app, RT.width, RT.yn r s]; omega
theorem bZ.cat {w : World} {ok : Nat → Prop} : (r s : RT) → (l m : List Value) → (x : ak r) → (y : ak s) → bZ w ok r l x → bZ w ok s m y → bZ w ok (r.app s) (l ++ m) (N1 r s x y)
 | .nil, s, l, m, x, y, h, h' => by
   have : l = [] := h; subst this; exact h'
 | .cons t r, s, l, m, x, y, h, h' => by
   obtain ⟨v, l', rfl, h1, h2⟩ := h; exact ⟨v, l' ++ m, rfl, h1, bZ.cat r s l' m x.2 y h2 h'⟩
theorem AQ.cat : (r s : RT) → (x : ak r) → (y : ak s) → AQ r x → AQ s y → AQ (r.app s) (N1 r s x y)
 | .nil, _, _, _, _, h' => h'
 | .cons t r, s, x, y, h, h' => by
   exact l8.2 ⟨(l8.1 h).1, AQ.cat r s x.2 y (l8.1 h).2 h'⟩
def AS (P : Program) (row : TypeId → Option RT) : Nat → List Field → Option RT
 | _, [] => some .nil
 | off, f :: fs => match row f.type with
   | some q => (match AS P row (off + q.width) fs with
     | some r => bif Nat.beq f.offset off && Nat.beq (P.cellsOf f.type) q.width then some (q.app r) else none
     | none => none)
   | none => none
def AT (P : Program) : Nat → TypeId → Option RT
 | 0, _ => none
 | n + 1, t => match P.underlying t with
   | some .bool => some (.cons .bool .nil)
   | some (.int k) => some (.cons (.int k) .nil)
   | some .string => some (.cons .str .nil)
   | some (.slice e) => (match AT P n e with
     | some q => bif Nat.beq (P.cellsOf e) q.width && Nat.blt 0 q.width then some (.cons (.sl q) .nil) else none
     | none => none)
   | some (.struct fs) => (match AS P (AT P n) 0 fs.toList with
     | some r => bif Nat.beq (P.cellsOf t) r.width then some r else none
     | none => none)
   | _ => none
theorem It {α : Type} {Pr : Nat → α → Prop} : (n : Nat) → (∀ i, i < n → ∃ x, Pr i x) → ∃ xs : List α, xs.length = n ∧ ∀ (i : Nat) x, xs[i]? = some x → Pr i x
 | 0, _ => ⟨[], rfl, fun i x h => by simp at h⟩
 | n + 1, h => by
   obtain ⟨xs, h1, h2⟩ := It n (fun i hi => h i (by omega)); obtain ⟨x, hx⟩ := h n (by omega); refine ⟨xs ++ [x], by simp [h1], fun i y hy => ?_⟩
   by_cases hi : i < n
   · rw [List.getElem?_append_left (by omega)] at hy; exact h2 i y hy
   · rw [List.getElem?_append_right (by omega)] at hy; have Ae : i = n := by
       have := (List.getElem?_eq_some_iff.1 hy).1; simp at this; omega
     subst Ae; rw [h1, Nat.sub_self] at hy; simp at hy; rw [← hy]; exact hx
theorem CG {w : World} {a : Addr} {v : Value} (h : w.cell? a = some v) : a.spot = none := by
 unfold World.cell? at h
 split at h
 · split at h
   · cases h
   · rename_i hs; simpa using hs
 · cases h
theorem E4 {α β : Type} {f : α → Option β} : (l : List α) → {m : List β} → l.mapM f = some m → m.length = l.length ∧ ∀ (i : Nat) a, l[i]? = some a → f a = m[i]?
 | [], m, h => by
   simp at h; subst h; exact ⟨rfl, fun i a ha => by simp at ha⟩
 | a :: l, m, h => by
   rw [List.mapM_cons] at h
   cases ha : f a with
   | none => simp [ha] at h
   | some b =>
     cases hl : l.mapM f with
     | none => simp [ha, hl] at h
     | some m' =>
       simp [ha, hl] at h; subst h; obtain ⟨h1, h2⟩ := E4 l hl; refine ⟨by simp [h1], fun i x hx => ?_⟩
       cases i with
       | zero => simp at hx; subst hx; simpa using ha
       | succ i => simpa using h2 i x (by simpa using hx)
theorem yX {w : World} {base n : Nat} {a : Addr} {vs : List Value} (h : w.cells? base a n = some vs) : vs.length = n ∧ w.rangeAt a.block a.off vs ∧ (0 < n → a.spot = none) := by
 unfold World.cells? at h
 split at h
 · obtain ⟨h1, h2⟩ := E4 _ h; simp at h1; have each : ∀ j v, vs[j]? = some v → w.cell? (a.add j) = some v := by
     intro j v hv; have hj : j < n := by
       have := (List.getElem?_eq_some_iff.1 hv).1; omega
     rw [h2 j j (by simp [hj]), hv]
   refine ⟨h1, fun j v hv => ?_, fun hn => ?_⟩
   · have := each j v hv; have hs := CG this; have e : a.add j = ⟨a.block, a.off + j, none⟩ := by
       unfold Addr.add at hs ⊢
       split
       · rename_i h0; subst h0; rw [if_pos rfl] at hs; obtain ⟨b, o, s⟩ := a; simp at hs; subst hs; rfl
       · rfl
     rw [← e]; exact this
   · have bP : 0 < vs.length := by omega
     have := each 0 vs[0] (by simp [bP]); have hs := CG this; simpa [Addr.add] using hs
 · cases h
theorem CH {P : Program} {w : World} {cs : List Value} {row : TypeId → Option RT} : (fs : List Field) → (off : Nat) → (r : RT) → AS P row off fs = some r →
   (∀ f ∈ fs, ∀ q, row f.type = some q → ∃ x : ak q, bZ w (fun _ => True) q ((cs.drop f.offset).take (P.cellsOf f.type)) x ∧ AQ q x) → off + r.width ≤ cs.length →
   ∃ x : ak r, bZ w (fun _ => True) r ((cs.drop off).take r.width) x ∧ AQ r x
 | [], off, r, h, _, _ => by
   simp only [AS, Option.some.injEq] at h; subst h; exact ⟨(), by simp [RT.width, bZ], AR _⟩
 | f :: fs, off, r, h, hf, hl => by
   unfold AS at h
   cases hq : row f.type with
   | none => simp [hq] at h
   | some q =>
     simp only [hq] at h
     cases hr : AS P row (off + q.width) fs with
     | none => simp [hr] at h
     | some r' =>
       simp only [hr] at h; obtain ⟨h1, h2⟩ := aD h; injection h2 with h2; subst h2; rw [Bool.and_eq_true] at h1; have ho := Nat.eq_of_beq_eq_true h1.1; have hc := Nat.eq_of_beq_eq_true h1.2; rw [RT.yn] at hl; obtain ⟨x, Gk, BO⟩ := hf f List.mem_cons_self q hq; obtain ⟨y, Y1, hy2⟩ := CH fs (off + q.width) r' hr (fun g hg => hf g (List.mem_cons_of_mem _ hg)) (by omega); refine ⟨N1 q r' x y, ?_, AQ.cat q r' x y BO hy2⟩; rw [RT.yn, List.take_add, List.drop_drop]; rw [ho, hc] at Gk; exact bZ.cat q r' _ _ x y Gk Y1
theorem Du {H : Type} {enc : TypeId × Value → H} {P : Program} {w : World} {base : Nat} {spare : Nat → Bool} {held : Bool} : (n : Nat) → ∀ {t : TypeId} {r : RT} {fuel : Nat} {cs : List Value} {y : DataW H × List MemPlace}, AT P n t = some r →
   DataW.trod enc P w base spare held fuel t cs = some y → ∃ x : ak r, bZ w (fun _ => True) r cs x ∧ AQ r x
 | 0, _, _, _, _, _, h, _ => by cases h
 | n + 1, t, r, fuel, cs, y, h, hd => by
   unfold AT at h
   cases hu : P.underlying t with
   | none => simp [hu] at h
   | some d =>
     cases d with
     | bool =>
       simp only [hu, Option.some.injEq] at h; subst h; obtain ⟨b, rfl, _⟩ := DataW.trod_bool hu hd; exact ⟨((b : Bool), ()), ⟨_, _, rfl, pZ.2 rfl, rfl⟩, l8.2 ⟨QT, AR _⟩⟩
     | int k =>
       simp only [hu, Option.some.injEq] at h; subst h; obtain ⟨m, rfl, _, hw⟩ := DataW.trod_int hu hd; exact ⟨((m : Int), ()), ⟨_, _, rfl, oM.2 rfl, rfl⟩, l8.2 ⟨Uw.2 hw, AR _⟩⟩
     | string =>
       simp only [hu, Option.some.injEq] at h; subst h; obtain ⟨s, rfl, _, hw⟩ := DataW.trod_string hu hd; exact ⟨((s : ByteArray), ()), ⟨_, _, rfl, ti.2 rfl, rfl⟩, l8.2 ⟨Ux.2 hw, AR _⟩⟩
     | slice e =>
       simp only [hu] at h
       cases hq : AT P n e with
       | none => simp [hq] at h
       | some q =>
         simp only [hq] at h; obtain ⟨h1, h2⟩ := aD h; injection h2 with h2; subst h2; rw [Bool.and_eq_true] at h1; have hw := Nat.eq_of_beq_eq_true h1.1; have KZ : 0 < q.width := Nat.le_of_ble_eq_true h1.2; rcases DataW.trod_slice hu hd with ⟨rfl, _⟩ | ⟨a, len, cap, elems, rest, m, _, rfl, _, hb, hl, hm, hlen, XD, _, _⟩
         · exact ⟨(([] : List (ak q)), ()), ⟨_, _, rfl, (lM _ _ _ _ _).2 (.inl ⟨rfl, rfl⟩), rfl⟩, l8.2 ⟨Uy.2 ⟨Nat.zero_le _, fun x hx => by cases hx⟩, AR _⟩⟩
         · have each : ∀ i, i < len → ∃ x : ak q, (bU w (fun _ => True) q a.block (a.off + i * q.width) x ∧ AQ q x) ∧ a.spot = none ∧ a.block < w.heap.size := by
             intro i hi; have h3 := XD i hi; rw [List.getElem?_eq_getElem (by omega), Option.bind_eq_some_iff] at h3; obtain ⟨vs, wZ, hy⟩ := h3; obtain ⟨x, hx, hs⟩ := Du n hq hy; obtain ⟨g1, g2, g3⟩ := yX wZ; have SO : (a.add (i * P.cellsOf e)).block = a.block := by unfold Addr.add; split <;> rfl
             have hof : (a.add (i * P.cellsOf e)).off = a.off + i * q.width := by
               unfold Addr.add; rw [hw]
               split
               · rename_i h0; rw [h0]; rfl
               · rfl
             rw [SO, hof] at g2; refine ⟨x, ⟨(k9 q _ _ x).2 ⟨vs, g2, hx⟩, hs⟩, ?_, ?_⟩
             · have h4 := XD 0 (by omega); rw [List.getElem?_eq_getElem (by omega), Option.bind_eq_some_iff] at h4; obtain ⟨vs0, Y2, _⟩ := h4; have := (yX Y2).2.2 (by omega); simpa [Addr.add] using this
             · have bP : 0 < vs.length := by omega
               have h5 := H0 (g2 0 vs[0] (by simp [bP])); exact h5
           obtain ⟨xs, Gk, BO⟩ := It len each; refine ⟨((xs : List (ak q)), ()), ⟨_, _, rfl, (lM _ _ _ _ _).2 (.inr ⟨a, cap, by rw [Gk], by rw [Gk]; exact hl, fun fk => ?_, fun i x hi => (BO i x hi).1.1⟩), rfl⟩, ?_⟩
           · have bP : 0 < xs.length := List.length_pos_iff.2 fk; have := (BO 0 xs[0] (by simp [bP])).2; exact ⟨this.1, this.2, trivial⟩
           · refine l8.2 ⟨Uy.2 ⟨by show xs.length ≤ maxLen; omega, fun x hx => ?_⟩, AR _⟩; obtain ⟨i, hi⟩ := List.getElem?_of_mem hx; exact (BO i x hi).1.2
     | struct fs =>
       simp only [hu] at h
       cases hq : AS P (AT P n) 0 fs.toList with
       | none => simp [hq] at h
       | some q =>
         simp only [hq] at h; obtain ⟨h1, h2⟩ := aD h; injection h2 with h2; subst h2; have hw := Nat.eq_of_beq_eq_true h1; obtain ⟨xs, m, _, _, hlen, O4, XD⟩ := DataW.trod_struct hu hd; obtain ⟨x, g1, g2⟩ := CH (w := w) (cs := cs) fs.toList 0 q hq (fun f hf p hp => by
           obtain ⟨i, hi⟩ := List.getElem?_of_mem hf; rw [Array.getElem?_toList] at hi; have h3 := XD i f hi; have bP : i < fs.size := (Array.getElem?_eq_some_iff.1 hi).1; rw [List.getElem?_eq_getElem (by omega)] at h3; exact Du n hp h3) (by omega)
         refine ⟨x, ?_, g2⟩; have : (cs.drop 0).take q.width = cs := by rw [List.drop_zero, List.take_of_length_le (by omega)]
         rwa [this] at g1
     | _ => simp [hu] at h
end Go.TM
namespace Go.TM
open Go Go.RowKit Go.ChangeShapes
mutual
theorem Ty.tR : (t : Ty) → Ty.eq? t t = some ⟨rfl⟩
 | .int k => by simp [Ty.eq?]
 | .bool => rfl
 | .str => rfl
 | .sl r => by simp [Ty.eq?, RT.tR r]
theorem RT.tR : (r : RT) → RT.eq? r r = some ⟨rfl⟩
 | .nil => rfl
 | .cons t r => by simp [RT.eq?, Ty.tR t, RT.tR r]
end
theorem GK (r : RT) (xs : List (ak r)) : bn r xs = some xs := by
 unfold bn; rw [RT.tR]
theorem qd {p : OP} {ps : List OP} {t : RT} {o : OV} {os : List OV} {y : ak t} {x : den p.ty} {z : ak (jT ps t)} (h1 : oY p o = some x) (h2 : cB ps t os y = some z) : cB (p :: ps) t (o :: os) y = some ((x, z) : ak (jT (p :: ps) t)) := by
 unfold cB; rw [h1, h2]; rfl
theorem Jq {k : IntKind} {n : Int} : oY (.int k) (.int k n) = some n := if_pos rfl
def lh : RT → List OP
 | .nil => []
 | .cons (.int k) r => .int k :: lh r
 | .cons .bool r => .bool :: lh r
 | .cons .str r => .str :: lh r
 | .cons (.sl q) r => .shr q :: lh r
def Cz.free : Cz := { bx := fun _ => 0, lc := fun _ _ => .nil, own := fun _ => none }
theorem E5 {w : World} {f : Nat → Lb} : (r : RT) → (t : RT) → (j : Nat) → (vs : List Value) → (x : ak r) → (y : ak t) → bZ w (fun _ => True) r vs x → AQ r x →
   ∃ z : ak (jT (lh r) t), ba Cz.free w f j (cM (lh r) t z).1 vs ∧ cB (lh r) t (cM (lh r) t z).1 y = some z ∧ (AQ t y → AQ (jT (lh r) t) z)
 | .nil, t, j, vs, x, y, h, _ => by
   have : vs = [] := h; subst this; exact ⟨y, rfl, rfl, id⟩
 | .cons ty r, t, j, vs, x, y, h, hs => by
   obtain ⟨v, l, rfl, h1, h2⟩ := h; obtain ⟨s1, s2⟩ := l8.1 hs; obtain ⟨z, g1, g2, g3⟩ := E5 (f := f) r t (j + 1) l x.2 y h2 s2
   cases ty with
   | int k =>
     refine ⟨(x.1, z), ⟨l, by rw [oM.1 h1], g1⟩, ?_, fun hy => l8.2 ⟨s1, g3 hy⟩⟩; exact qd (p := .int k) (o := .int k x.1) (Jq) g2
   | bool =>
     refine ⟨(x.1, z), ⟨l, by rw [pZ.1 h1], g1⟩, ?_, fun hy => l8.2 ⟨s1, g3 hy⟩⟩; exact qd (p := .bool) (o := .bool x.1) (rfl) g2
   | str =>
     refine ⟨(x.1, z), ⟨l, by rw [ti.1 h1], g1⟩, ?_, fun hy => l8.2 ⟨s1, g3 hy⟩⟩; exact qd (p := .str) (o := .str x.1) (rfl) g2
   | sl q =>
     refine ⟨(x.1, z), ⟨v, l, rfl, bz.stays ⟨Nat.le_refl _, fun _ _ _ => rfl, fun _ _ _ => rfl⟩ _ _ _ h1, g1⟩, ?_, fun hy => l8.2 ⟨s1, g3 hy⟩⟩; exact qd (p := .shr q) (o := .shr q x.1) (GK q x.1) g2
def OP.same : OP → OP → Bool
 | .int k, .int l => decide (k = l)
 | .bool, .bool => true
 | .str, .str => true
 | .shr r, .shr s => (RT.eq? r s).isSome
 | _, _ => false
theorem OP.xv {p q : OP} (h : p.same q = true) : p = q := by
 cases p <;> cases q <;> simp [OP.same] at h
 · rw [h]
 · rfl
 · rfl
 · rename_i r s; obtain ⟨⟨e⟩, _⟩ := Option.isSome_iff_exists.1 h; rw [e]
def uN : List OP → List OP → Bool
 | [], [] => true
 | p :: l, q :: m => p.same q && uN l m
 | _, _ => false
theorem AU : (l m : List OP) → uN l m = true → l = m
 | [], [], _ => rfl
 | p :: l, q :: m, h => by
   unfold uN at h; rw [Bool.and_eq_true] at h; rw [OP.xv h.1, AU l m h.2]
 | [], _ :: _, h => by simp [uN] at h
 | _ :: _, [], h => by simp [uN] at h
def F1 (P : Program) : List TypeId → List AP → Bool
 | [], [] => true
 | t :: ts, .val agg os :: ps => (match AT P 30 t with
     | some r => uN (lh r) os
     | none => false) && ((match P.underlying t with | some (.struct _) => agg | _ => !agg) && (P.readableRec t && (Nat.blt t P.types.size && F1 P ts ps)))
 | _, _ => false
theorem one_cell {P : Program} {w : World} {r : Reach} {b : Nat} {t : TypeId} {v : Value} {rt : RT} (hn : AT P 30 t = some rt) (hs : ∀ fs, P.underlying t ≠ some (.struct fs)) (h : Value.okWide P w r b t v) : v.cells.toList = [v] := by
 cases hu : P.underlying t with
 | none => simp [AT, hu] at hn
 | some d =>
   cases v <;> try rfl
   rename_i cs
   exfalso
   cases d <;> first | exact hs _ hu | (simp [AT, hu] at hn; done) | (simp [Value.okWide, hu, Cell.okWide, Cell.ok] at h)
theorem CI {H : Type} {enc : TypeId × Value → H} {P : Program} {w : World} {lc : Nat → Nat → Loc} : (ts : List TypeId) → (ps : List AP) → F1 P ts ps = true → (i : Nat) → (vs : List Value) → (ds : List (DataW H)) → (p : List MemPlace) →
   (∀ (j : Nat) t v, ts[j]? = some t → vs[j]? = some v → ∃ b, Value.okWide P w .any b t v) → DataW.TrodAll enc P w 0 (fun _ => true) true ts vs ds p →
   ∃ (x : ak (ar (ps.map some))) (cN : List AV), eo ps cN = some x ∧ vH Cz.free w lc i cN vs ∧ AQ (ar (ps.map some)) x
 | [], [], _, i, vs, ds, p, _, hA => by
   obtain ⟨rfl, _, _⟩ := trodAll_nil hA; exact ⟨(), [], rfl, rfl, AR _⟩
 | [], _ :: _, hb, _, _, _, _, _, _ => by simp [F1] at hb
 | t :: ts, [], hb, _, _, _, _, _, _ => by simp [F1] at hb
 | t :: ts, .io _ _ :: _, hb, _, _, _, _, _, _ => by simp [F1] at hb
 | t :: ts, .box _ _ :: _, hb, _, _, _, _, _, _ => by simp [F1] at hb
 | t :: ts, .bo _ :: _, hb, _, _, _, _, _, _ => by simp [F1] at hb
 | t :: ts, .val agg os :: ps, hb, i, vs, ds, p, oX, hA => by
   obtain ⟨v, Uz, d, Y3, p', q', rfl, rfl, rfl, h1, h2⟩ := trodAll_cons hA; unfold F1 at hb; rw [Bool.and_eq_true, Bool.and_eq_true, Bool.and_eq_true, Bool.and_eq_true] at hb; obtain ⟨b1, b2, _, _, b5⟩ := hb; obtain ⟨y, cN, g1, g2, g3⟩ := CI (lc := lc) ts ps b5 (i + 1) Uz Y3 q' (fun j t v ht hv => oX (j + 1) t v (by simpa using ht) (by simpa using hv)) h2; obtain ⟨b0, ff⟩ := oX 0 t v rfl rfl
   cases hr : AT P 30 t with
   | none => rw [hr] at b1; cases b1
   | some r =>
     rw [hr] at b1; have qo := AU _ _ b1; subst qo; obtain ⟨fuel, hd⟩ := h1; obtain ⟨x, Gk, BO⟩ := Du 30 hr hd; obtain ⟨z, k1, k2, k3⟩ := E5 (f := .bB i) r (ar (ps.map some)) 0 v.cells.toList x y Gk BO
     cases agg with
     | false =>
       have hs : ∀ fs, P.underlying t ≠ some (.struct fs) := by
         intro fs e; rw [e] at b2
         cases b2
       rw [one_cell hr hs ff] at k1; refine ⟨z, .val false (cM (lh r) (ar (ps.map some)) z).1 :: cN, ?_, ⟨v, Uz, rfl, k1, g2⟩, k3 g3⟩; show (match eo ps cN with | some y => Cw (.val false (lh r)) (ar (ps.map some)) (.val false _) y | none => none) = _; rw [g1]; exact k2
     | true =>
       obtain ⟨fs, hu⟩ : ∃ fs, P.underlying t = some (.struct fs) := by
         cases hu : P.underlying t with
         | none => rw [hu] at b2; cases b2
         | some d =>
           rw [hu] at b2
           cases d <;> first | exact ⟨_, rfl⟩ | cases b2
       obtain ⟨cs, rfl, _⟩ : ∃ cs, v = .agg cs ∧ True := by
         unfold Value.okWide at ff; rw [hu] at ff; obtain ⟨cs, e, _⟩ := ff; exact ⟨cs, e, trivial⟩
       refine ⟨z, .val true (cM (lh r) (ar (ps.map some)) z).1 :: cN, ?_, ⟨.agg cs, Uz, rfl, ⟨cs, rfl, k1⟩, g2⟩, k3 g3⟩; show (match eo ps cN with | some y => Cw (.val true (lh r)) (ar (ps.map some)) (.val true _) y | none => none) = _; rw [g1]; exact k2
theorem CJ {H : Type} {enc : TypeId × Value → H} {P : Program} (hl : laidOutB P = true) {W W' : World} (hb : Below W.heap.size W W') : (ts : List TypeId) → (ps : List AP) → F1 P ts ps = true → (vs : List Value) → (ds : List (DataW H)) → (p : List MemPlace) → (∀ x ∈ p, x.block < W.heap.size) →
   DataW.TrodAll enc P W 0 (fun _ => true) true ts vs ds p → DataW.TrodAll enc P W' 0 (fun b => decide (b < W.heap.size)) true ts vs ds p
 | [], [], _, vs, ds, p, _, hA => by
   obtain ⟨rfl, rfl, rfl⟩ := trodAll_nil hA; exact trodAll_mk0
 | [], _ :: _, hb, _, _, _, _, _ => by simp [F1] at hb
 | t :: ts, [], hb, _, _, _, _, _ => by simp [F1] at hb
 | t :: ts, .io _ _ :: _, hb, _, _, _, _, _ => by simp [F1] at hb
 | t :: ts, .box _ _ :: _, hb, _, _, _, _, _ => by simp [F1] at hb
 | t :: ts, .bo _ :: _, hb, _, _, _, _, _ => by simp [F1] at hb
 | t :: ts, .val agg os :: ps, hp, vs, ds, p, bP, hA => by
   obtain ⟨v, Uz, d, Y3, p', q', rfl, rfl, rfl, h1, h2⟩ := trodAll_cons hA; unfold F1 at hp; rw [Bool.and_eq_true, Bool.and_eq_true, Bool.and_eq_true, Bool.and_eq_true] at hp; obtain ⟨_, _, b3, b4, b5⟩ := hp; exact trodAll_cons_mk (Below.trod hl b3 (Nat.le_of_ble_eq_true b4) h1 hb (fun x hx => bP x (List.mem_append_left _ hx))) (CJ hl hb ts ps b5 Uz Y3 q' (fun x hx => bP x (List.mem_append_right _ hx)) h2)
theorem Jr {H : Type} {enc : TypeId × Value → H} {P : Program} (hl : laidOutB P = true) {f : FuncId} {ps : List AP} {s : Nat} {t : ak (ar (ps.map some)) → Option (ak (bQ [{ src := .tmp s, agg := false, ps := [.bool] }] (bc ps)))}
   (hk : nS P f (jV ps [{ src := .tmp s, agg := false, ps := [.bool] }] t)) {ts : List TypeId} (NG : F1 P ts ps = true) (Y4 : ∀ x, AQ (ar (ps.map some)) x → ∃ y, t x = some y ∧ y.1 = true)
   {W : World} {base : Nat} {args : Array Value} {ds : List (DataW H)} {p : List MemPlace} (oX : ∀ (j : Nat) t v, ts[j]? = some t → args[j]? = some v → Value.okWide P W .any base t v)
   (hA : DataW.TrodAll enc P W 0 (fun _ => true) true ts args.toList ds p) (bP : ∀ x ∈ p, x.block < W.heap.size) :
   Calls P f args W fun e W' => e = .returned (.bool true) ∧ Below W.heap.size W W' ∧ DataW.TrodAll enc P W' 0 (fun b => decide (b < W.heap.size)) true ts args.toList ds p := by
 obtain ⟨x, cN, h1, h2, h3⟩ := CI (lc := fun _ _ => .nil) ts ps NG 0 args.toList ds p (fun j t v ht hv => ⟨base, oX j t v ht (by rwa [Array.getElem?_toList] at hv)⟩) hA; obtain ⟨y, hy, Y1⟩ := Y4 x h3
 let μ : Mu := { m := fun _ => False, ok := fun _ => True, an := [] }
 have hH : Handed Cz.free W μ := {
   m := fun b => ⟨fun h => h.elim, fun ⟨l, h, _⟩ => by cases h⟩
   ok := fun b => ⟨fun _ => rfl, fun _ => trivial⟩
   lt := fun b l h => by cases h
   lb := fun b l h => by cases h }
 have hs : jV ps [{ src := .tmp s, agg := false, ps := [.bool] }] t cN = some { r := bQ [{ src := .tmp s, agg := false, ps := [.bool] }] (bc ps), o := t x, res := fun y => { outs := (eV [{ src := .tmp s, agg := false, ps := [.bool] }] (bc ps) y).1, exts := kt ps (eV [{ src := .tmp s, agg := false, ps := [.bool] }] (bc ps) y).2 } } := by
   unfold jV; rw [h1]
 refine (hk.ok Cz.free W μ (fun _ _ => .nil) cN args _ y hH h2 hs hy).mono fun e W' ⟨v, he, c', hb, hV, _⟩ => ?_
 have UA : Below W.heap.size W W' := ⟨hb.kept.1, hb.kept.2.1, hb.kept.2.2.1, hb.kept.2.2.2, fun k hk => hb.old k hk (fun h => h.elim)⟩; have hv : v = .bool true := by
   have hV : oT c' W' [.one (.bool y.1)] v := hV; rcases hV with ⟨r, e1, g⟩ | ⟨g, _⟩
   · simp only [List.cons.injEq, and_true] at e1; subst e1; obtain ⟨v', l, e2, g2, _⟩ := g; simp only [List.cons.injEq] at e2; obtain ⟨e2, _⟩ := e2; obtain ⟨l', g3, _⟩ := g2; simp only [List.cons.injEq] at g3; rw [e2, g3.1, Y1]
   · simp at g
 exact ⟨by rw [he, hv], UA, CJ hl UA ts ps NG args.toList ds p bP hA⟩
theorem eB {a : Int} (h1 : -9223372036854775808 ≤ a) (h2 : a < 9223372036854775808) : IntKind.i64.wrap a = a := by
 rw [IntKind.wrap_i64]; omega
theorem qS {X E : Type} {round : X → Option (Sum X E)} {n : Nat} (st : Nat → X) (g : Nat → Option E) (Ll : ∃ e, round (st n) = some (.inr e) ∧ g n = some e)
   (yY : ∀ k, k < n → (∃ e, round (st k) = some (.inr e) ∧ g k = some e) ∨ (round (st k) = some (.inl (st (k + 1))) ∧ g k = g (k + 1))) : ∀ k, k ≤ n → aE round (st k) = g k := by
 have key : ∀ d k, k + d = n → aE round (st k) = g k := by
   intro d
   induction d with
   | zero =>
     intro k hk; have : k = n := by omega
     subst this; obtain ⟨e, h1, h2⟩ := Ll; rw [iv, h1, h2]
   | succ d ih =>
     intro k hk; rcases yY k (by omega) with ⟨e, h1, h2⟩ | ⟨h1, h2⟩
     · rw [iv, h1, h2]
     · rw [iv, h1, h2]; exact ih (k + 1) (by omega)
 intro k hk; exact key (n - k) k (by omega)
theorem ef {X E : Type} {round : X → Option (Sum X E)} (n : Nat) (st : Nat → X) {e : E} (Ll : round (st n) = some (.inr e))
   (yY : ∀ k, k < n → round (st k) = some (.inl (st (k + 1)))) : aE round (st 0) = some e :=
 qS st (fun _ => some e) ⟨e, Ll, rfl⟩ (fun k hk => .inr ⟨yY k hk, rfl⟩) 0 (Nat.zero_le _)
theorem eg {X E : Type} {round : X → Option (Sum X E)} (n : Nat) (I : Nat → X → Prop) (Q : E → Prop) (Ll : ∀ x, I n x → ∃ e, round x = some (.inr e) ∧ Q e)
   (yY : ∀ k x, k < n → I k x → (∃ e, round x = some (.inr e) ∧ Q e) ∨ (∃ y, round x = some (.inl y) ∧ I (k + 1) y)) {x : X} (h : I 0 x) : ∃ e, aE round x = some e ∧ Q e := by
 have key : ∀ d k x, k + d = n → I k x → ∃ e, aE round x = some e ∧ Q e := by
   intro d
   induction d with
   | zero =>
     intro k x hk hI; have : k = n := by omega
     subst this; obtain ⟨e, h1, h2⟩ := Ll x hI; exact ⟨e, by rw [iv, h1], h2⟩
   | succ d ih =>
     intro k x hk hI; rcases yY k x (by omega) hI with ⟨e, h1, h2⟩ | ⟨y, h1, h2⟩
     · exact ⟨e, by rw [iv, h1], h2⟩
     · obtain ⟨e, h3, h4⟩ := ih (k + 1) y (by omega) h2; exact ⟨e, by rw [iv, h1]; exact h3, h4⟩
 exact key n 0 x (by omega) h
theorem iw {A B C : Type} {a : A} {f : A → Option C} {g : B → Option C} : cj (some (.inl a)) f g = f a := rfl
theorem ah {p : Prop} [Decidable p] (h : p) : decide p = true := decide_eq_true h
theorem ai {p : Prop} [Decidable p] (h : ¬ p) : decide p = false := decide_eq_false h
theorem aC (k : Nat) : Int.toNat ((k : Nat) : Int) = k := rfl
theorem mD {a b : Nat} (h : a < b) : Nat.blt a b = true := Nat.ble_eq_true_of_le h
theorem aH {a b : Nat} (h : a ≤ b) : Nat.ble a b = true := Nat.ble_eq_true_of_le h
theorem aq (k : Nat) : decide ((0 : Int) ≤ ((k : Nat) : Int)) = true := ah (by omega)
theorem az {k n : Nat} (h : k < n) : decide (((k : Nat) : Int) < ((n : Nat) : Int)) = true := ah (by omega)
theorem aF (n : Nat) : decide (((n : Nat) : Int) < ((n : Nat) : Int)) = false := ai (by omega)
theorem aJ {k : Nat} (h : k < 4611686018427387904) : IntKind.i64.wrap (((k : Nat) : Int) + (1 : Int)) = (((k + 1 : Nat)) : Int) := by
 rw [eB] <;> omega
theorem AW (bs : ByteArray) : ∀ (d i : Nat) (r : List UInt8), bs.size - i = d → ByteArray.toList.loop bs i r = r.reverse ++ bs.data.toList.drop i
 | 0, i, r, h => by
   unfold ByteArray.toList.loop; rw [if_neg (by omega)]; have : bs.data.toList.drop i = [] := List.drop_of_length_le (by
     have : bs.data.toList.length = bs.size := Array.length_toList; omega)
   rw [this, List.append_nil]
 | d + 1, i, r, h => by
   unfold ByteArray.toList.loop; have bP : i < bs.size := by omega
   rw [if_pos bP, AW bs d (i + 1) _ (by omega)]; have Y5 : i < bs.data.toList.length := by
     have : bs.data.toList.length = bs.size := Array.length_toList; omega
   rw [List.reverse_cons, List.append_assoc, List.drop_eq_getElem_cons Y5]
   congr 2
   simp [ByteArray.get!, bP]
theorem AX (bs : ByteArray) : bs.toList = bs.data.toList := by
 unfold ByteArray.toList; rw [AW bs _ 0 [] rfl]; simp
theorem Js {a b : ByteArray} : oJ a b = true ↔ a = b := by
 unfold oJ; rw [beq_iff_eq]
 constructor
 · intro h; rw [AX, AX] at h; obtain ⟨⟨x⟩⟩ := a; obtain ⟨⟨y⟩⟩ := b; exact congrArg (fun l => ByteArray.mk ⟨l⟩) h
 · intro h; rw [h]
theorem AY (a : ByteArray) : oJ a a = true := Js.2 rfl
def wl {α : Type} (f : α → Nat) (xs : List α) : Nat := xs.foldr (fun x n => f x + n) 0
theorem N2 {α : Type} (f : α → Nat) (x : α) (xs : List α) : wl f (x :: xs) = f x + wl f xs := rfl
theorem QU {α : Type} (f : α → Nat) (xs ys : List α) : wl f (xs ++ ys) = wl f xs + wl f ys := by
 induction xs with
 | nil => simp [wl]
 | cons x xs ih =>
   show f x + wl f (xs ++ ys) = f x + wl f xs + wl f ys; rw [ih]; omega
theorem uO {α : Type} (f : α → Nat) (h : ∀ x, f x = 0) (xs : List α) : wl f xs = 0 := by
 induction xs with
 | nil => rfl
 | cons y xs ih => show f y + wl f xs = 0; rw [h, ih]
theorem mE {X Y E F : Type} {r1 : X → Option (Sum X E)} {r2 : Y → Option (Sum Y F)} (n : Nat) (R : Nat → X → Y → Prop) (Q : E → F → Prop)
   (yY : ∀ k x y, k ≤ n → R k x y → (∃ e f, r1 x = some (.inr e) ∧ r2 y = some (.inr f) ∧ Q e f) ∨ (k < n ∧ ∃ x' y', r1 x = some (.inl x') ∧ r2 y = some (.inl y') ∧ R (k + 1) x' y')) {x : X} {y : Y} (h : R 0 x y) :
   ∃ e f, aE r1 x = some e ∧ aE r2 y = some f ∧ Q e f := by
 have key : ∀ d k x y, k + d = n → R k x y → ∃ e f, aE r1 x = some e ∧ aE r2 y = some f ∧ Q e f := by
   intro d
   induction d with
   | zero =>
     intro k x y hk hR; rcases yY k x y (by omega) hR with ⟨e, f, h1, h2, h3⟩ | ⟨bP, _⟩
     · exact ⟨e, f, by rw [iv, h1], by rw [iv, h2], h3⟩
     · omega
   | succ d ih =>
     intro k x y hk hR; rcases yY k x y (by omega) hR with ⟨e, f, h1, h2, h3⟩ | ⟨_, x', y', h1, h2, h3⟩
     · exact ⟨e, f, by rw [iv, h1], by rw [iv, h2], h3⟩
     · obtain ⟨e, f, g1, g2, g3⟩ := ih (k + 1) x' y' (by omega) h3; exact ⟨e, f, by rw [iv, h1]; exact g1, by rw [iv, h2]; exact g2, g3⟩
 exact key n 0 x y (by omega) h
end Go.TM
namespace Go.TM
open Go Go.RowKit
def oE (P : Program) : Nat → RT → List Field → Bool
 | _, .nil, [] => true
 | off, .cons t r, f :: fs => Nat.beq f.offset off && ((f.name != "_") && (P.plainKey f.type && (E1 P f.type t && oE P (off + 1) r fs)))
 | _, _, _ => false
def yo (P : Program) (t : TypeId) (r : RT) : Bool :=
 match P.underlying t with
 | some (.struct fs) => !P.stoodInHeld t && (!P.eqGuardType P.depth t && oE P 0 r fs.toList)
 | _ => false
def Pd (P : Program) (t : Nat) (r : Rec) : Bool := !r.eq || (match r.row with | some q => yo P t q | none => false)
theorem GL {P : Program} {c : Cz} {st : St} {w w' : World} {t : TypeId} {ty : Ty} {d : Nat} {a b : CV} {x y : Value} {r : Bool} {q : RT} {l : List CV} (hk : E1 P t ty = true) (hf : oK (.cons ty q) (a :: l) = true) (h : rh a b = some r) (hx : ir c st w a x) (hy : ir c st w b y) :
   (Op.equalIn (d + 1) t x y).run P w' = .ok r w' ∧ oK q l = true := by
 cases ty with
 | sl _ => cases a <;> simp [oK] at hf
 | int k =>
   obtain ⟨e, he, h2⟩ := eJ hk
   cases a <;> try (simp [oK] at hf; done)
   rename_i k1 n; simp only [oK, Bool.and_eq_true, decide_eq_true_eq] at hf
   cases b <;> try (simp [rh] at h; done)
   rename_i k2 m; simp only [rh] at h
   split at h
   · rename_i Nr; subst Nr
     cases h
     cases e <;> simp at h2
     have hx : x = .int k1 n := hx; have hy : y = .int k1 m := hy; subst hx hy; refine ⟨?_, hf.2⟩; rw [run_equalIn_int w' d t k1 _ n m he]
     congr 1
   · cases h
 | bool =>
   obtain ⟨e, he, h2⟩ := eJ hk
   cases a <;> try (simp [oK] at hf; done)
   cases b <;> try (simp [rh] at h; done)
   rename_i p q'; simp only [rh, Option.some.injEq] at h; subst h
   cases e <;> simp at h2
   have hx : x = .bool p := hx; have hy : y = .bool q' := hy; subst hx hy; exact ⟨run_equalIn_bool' w' d t p q' he, hf⟩
 | str =>
   obtain ⟨e, he, h2⟩ := eJ hk
   cases a <;> try (simp [oK] at hf; done)
   cases b <;> try (simp [rh] at h; done)
   rename_i p q'; simp only [rh, Option.some.injEq] at h; subst h
   cases e <;> simp at h2
   have hx : x = .string p := hx; have hy : y = .string q' := hy; subst hx hy; exact ⟨run_equalIn_string w' d t p q' he, hf⟩
theorem xw {P : Program} {c : Cz} {st : St} {w w' : World} {d : Nat} {us vs : Array Value} : (fs : List Field) → (off : Nat) → (q : RT) → (l m : List CV) → {b : Bool} → oE P off q fs = true → oK q l = true → kX l m = some b →
   ek c st w l (us.toList.drop off) → ek c st w m (vs.toList.drop off) → (Op.eqFields (d + 1) us vs fs).run P w' = .ok b w'
 | [], off, q, l, m, b, hf, oP, hc, hl, hm => by
   cases q with
   | cons t r => cases t <;> simp [oE] at hf
   | nil =>
     cases l with
     | cons _ _ => simp [oK] at oP
     | nil => cases m with
       | cons _ _ => simp [kX] at hc
       | nil =>
         simp only [kX, Option.some.injEq] at hc; subst hc; simp [Op.eqFields]
 | f :: fs, off, q, l, m, b, hf, oP, hc, hl, hm => by
   cases q with
   | nil => simp [oE] at hf
   | cons t r =>
     unfold oE at hf; rw [Bool.and_eq_true, Bool.and_eq_true, Bool.and_eq_true, Bool.and_eq_true] at hf; obtain ⟨h1, h2, h3, h4, h5⟩ := hf; have h1 := Nat.eq_of_beq_eq_true h1
     cases l with
     | nil => cases t <;> simp [oK] at oP
     | cons x l => cases m with
       | nil => simp [kX] at hc
       | cons y m =>
         simp only [kX] at hc
         cases he : rh x y with
         | none => simp [he] at hc
         | some b1 =>
           cases Y6 : kX l m with
           | none => simp [he, Y6] at hc
           | some b2 =>
             simp only [he, Y6, Option.some.injEq] at hc; subst hc; have FY : off < us.size := by
               have := hl.1; simp at this; omega
             have wL : off < vs.size := by
               have := hm.1; simp at this; omega
             have hdu : us.toList.drop off = us[off] :: us.toList.drop (off + 1) := by
               have : off < us.toList.length := by simpa using FY
               rw [List.drop_eq_getElem_cons this]; simp
             have TS : vs.toList.drop off = vs[off] :: vs.toList.drop (off + 1) := by
               have : off < vs.toList.length := by simpa using wL
               rw [List.drop_eq_getElem_cons this]; simp
             rw [hdu] at hl; rw [TS] at hm; have rx := hl.2 0 x us[off] rfl rfl; have ry := hm.2 0 y vs[off] rfl rfl; obtain ⟨k1, k2⟩ := GL (w' := w') (d := d) h4 oP he rx ry; have rl : ek c st w l (us.toList.drop (off + 1)) := ⟨by have := hl.1; simpa using this, fun i a v ha hv => hl.2 (i + 1) a v (by simpa using ha) (by simpa using hv)⟩; have rm : ek c st w m (vs.toList.drop (off + 1)) := ⟨by have := hm.1; simpa using this, fun i a v ha hv => hm.2 (i + 1) a v (by simpa using ha) (by simpa using hv)⟩; have ih := xw (w' := w') (d := d) fs (off + 1) r l m h5 k2 Y6 rl rm; unfold Op.eqFields; rw [if_pos (by simpa using h2)]; have p1 : (part f.type us f.offset).run P w' = .ok us[off] w' := run_part_plain w' h3 (by rw [h1]; exact Array.getElem?_eq_getElem FY); have p2 : (part f.type vs f.offset).run P w' = .ok vs[off] w' := run_part_plain w' h3 (by rw [h1]; exact Array.getElem?_eq_getElem wL); simp only [Sem.run_bind, p1, p2, k1, Result.andThen_ok]
             cases b1
             · simp
             · simp [ih]
theorem Lm {P : Program} {tr : Tr} (h : tr.all (Pd P) = true) : uX P (jI tr) := by
 intro t ht c st w l m us vs b op ox oy oP hc hl hm w'; have ht : (match tr.find t with | some r => r.eq | none => false) = true := ht
 cases hf : tr.find t with
 | none => rw [hf] at ht; cases ht
 | some r =>
   rw [hf] at ht; have ht : r.eq = true := ht; have h1 := Tr.xu tr h hf; unfold Pd at h1; rw [ht, Bool.not_true, Bool.false_or] at h1; unfold jb.fits at oP; have eG : (jI tr).row t = r.row := by show (match tr.find t with | some r => r.row | none => none) = _; rw [hf]
   rw [eG] at oP
   cases hq : r.row with
   | none => rw [hq] at h1; cases h1
   | some q =>
     rw [hq] at h1 oP; have h1 : yo P t q = true := h1; have oP : oK q l = true := oP; unfold yo at h1
     split at h1
     · rename_i fs hu; rw [Bool.and_eq_true, Bool.and_eq_true, Bool.not_eq_true', Bool.not_eq_true'] at h1; have hfo : P.fieldsOf t = fs := by unfold Program.fieldsOf; rw [hu]
       refine ⟨run_eqGuard_agg w' op t ox oy us vs h1.2.1, ?_⟩; show (Op.equalIn (9999 + 1) t (.agg us) (.agg vs)).run P w' = .ok b w'; rw [run_equalIn_struct w' 9999 t us vs (by rw [hfo]; exact hu) h1.1, hfo]; exact xw (d := 9998) fs.toList 0 q l m h1.2.2 oP hc (by simpa using hl) (by simpa using hm)
     · cases h1
end Go.TM
namespace Go.TM
open Go Go.RowKit
def E6 (n : Nat) (ps : List AP) (x : ak (ar (ps.map some))) : St := aT (start n ps x) (some 0) (.one .di)
def Iu (n : Nat) (r : RT) (xs : List (ak r)) (ps : List AP) (x : ak (ar (ps.map some))) : St := aT (start n ps x) (some 0) (.one (.nn r xs))
theorem E7 {P : Program} {tr : Tr} (hT : tr.all (vr P) = true) (hE : uX P (jI tr)) (hm : P.follows .mixedOrders = true) {S : hU} (hS : kr P S) {D : jd} {f : FuncId} {fn : Func} {code : Code} {n : Nat} {r : RT} {qs : List AP} {rs : List RP}
   {L : kY (ak (bQ rs (bc (.val false [.shr r] :: qs))))} {t : ak (ar ((AP.val false [.shr r] :: qs).map some)) → Option (ak (bQ rs (bc (.val false [.shr r] :: qs))))}
   (hf : P.funcs[f]? = some fn) (hb : fn.body = some code) (m7 : Pc (jI tr) D fn code n (.val false [.shr r] :: qs) rs = true) (E3 : (fn.name == "runtime.NumGoroutine") = false)
   (hL : ∀ (w0 : World) (mu : Mu) (y : ak (bQ rs (bc (.val false [.shr r] :: qs)))), ka (.val false [.shr r] :: qs) mu → ∀ p ∈ cC code, km P w0 mu n L y p.1 p.2)
   (Ln : ∀ z, dt (jI tr) S D L code (E6 n (.val false [.shr r] :: qs) (([] : List (ak r)), z)) (xo rs (.val false [.shr r] :: qs)) = t (([] : List (ak r)), z))
   (hnn : ∀ x, dt (jI tr) S D L code (Iu n r x.1 (.val false [.shr r] :: qs) x) (xo rs (.val false [.shr r] :: qs)) = t x) : nS P f (jV (.val false [.shr r] :: qs) rs t) := by
 unfold Pc at m7; rw [Bool.and_eq_true, Bool.and_eq_true, Bool.and_eq_true, Bool.and_eq_true] at m7; obtain ⟨h1, h2, h3, h4, h5⟩ := m7; refine ⟨EW (iP hT) hE hS hf hb (Nat.eq_of_beq_eq_true h1) (Nat.le_of_ble_eq_true h2) h3 (fun tm => uM tm _ _ h4) (fun w0 mu y hs => n4 code (hL w0 mu y hs))
   (fun w0 mu => qQ (iP hT) hE hm (nY (iP hT) hE hS w0 mu n)) (qc code h5) (fun w0 mu c a w x hR hn => ?_), fn, hf, E3, by rw [hb]; rfl⟩
 have KZ : 0 < n := by
   have := Nat.le_of_ble_eq_true h2; simp at this; omega
 have qL := hR.eO 0; have hg : bI (start n (.val false [.shr r] :: qs) x) 0 = .one (.shr r x.1) := rfl; rw [hg] at qL; have Ec : bz w c.ok (.sl r) (a.eval (.tmp 0)) x.1 := qL; have h0 : 0 < a.tmps.size := by omega
 by_cases hv : a.eval (.tmp 0) = .slice none 0 0
 · refine ⟨c, E6 n (.val false [.shr r] :: qs) x, ?_, ?_⟩
   · have := hR.aT (d := some 0) (v := .one .di) (u := a.eval (.tmp 0)) hv (fun k e => by cases e; exact h0)
     rwa [Am a 0 _ h0 rfl] at this
   · have hx : x.1 = ([] : List (ak r)) := by
       rcases (lM _ _ _ _ _).1 Ec with ⟨_, h⟩ | ⟨_, _, h, _⟩
       · exact h
       · rw [hv] at h; cases h
     obtain ⟨x1, z⟩ := x; simp only at hx; subst hx; exact Ln z
 · refine ⟨c, Iu n r x.1 (.val false [.shr r] :: qs) x, ?_, hnn x⟩; have := hR.aT (d := some 0) (v := .one (.nn r x.1)) (u := a.eval (.tmp 0)) ⟨Ec, hv⟩ (fun k e => by cases e; exact h0)
   rwa [Am a 0 _ h0 rfl] at this
end Go.TM
namespace Go.TM
open Go Go.RowKit
section
variable {R : Type} (T : jb) (S : hU) (D : jd) (L : kY R)
noncomputable def E8 : Nat → Code → St → (St → Option R) → (Ex → St → Option R) → Option R
 | 0, _, st, g, _ => g st
 | n + 1, .seq a b, st, g, k => dt T S D L a st fun e aP => match e with
   | .normal => E8 n b aP g k
   | e => k e aP
 | _, _, _, _, _ => none
end
def yZ : Nat → Code → Code
 | 0, c => c
 | n + 1, .seq _ b => yZ n b
 | _, _ => .skip
theorem CK {n : Nat} : (m : Nat) → (c : Code) → eA n c = true → eA n (yZ m c) = true
 | 0, _, h => h
 | m + 1, c, h => by
   cases c with
   | seq a b =>
     unfold eA at h; rw [Bool.and_eq_true] at h; exact CK m b h.2
   | _ => rfl
theorem za {ok : Nat → Code → Prop} : (m : Nat) → (c : Code) → cR ok c → cR ok (yZ m c)
 | 0, _, h => h
 | m + 1, c, h => by
   cases c with
   | seq a b => exact za m b h.2
   | _ => exact trivial
theorem AZ {ok : Nat → Array Oper → Prop} : (m : Nat) → (c : Code) → du ok c → du ok (yZ m c)
 | 0, _, h => h
 | m + 1, c, h => by
   cases c with
   | seq a b => exact AZ m b h.2
   | _ => exact trivial
theorem E9 {R : Type} {P : Program} {T : jb} {S : hU} {D : jd} {L : kY R} {w0 : World} {mu : Mu} {n : Nat} {r : R} {ok : Nat → Array Oper → Prop} (BQ : p9 P T S w0 mu n) (hD : oB R P T S D w0 mu n ok)
   {k : Ex → St → Option R} {Q : Exit → Act → World → Prop} (hk : Ib w0 mu n r k Q) {g : St → Option R} : (m : Nat) → (cd : Code) → eA n cd = true → cR (km P w0 mu n L r) cd → du ok cd →
   (∀ {c : Cz} {st : St} {a : Act} {w : World}, Rel w0 mu c st a w → a.tmps.size = n → g st = some r → (yZ m cd).wp P Q a w) →
   {c : Cz} → {st : St} → {a : Act} → {w : World} → Rel w0 mu c st a w → a.tmps.size = n → E8 T S D L m cd st g k = some r → cd.wp P Q a w
 | 0, cd, _, _, _, hg, c, st, a, w, h, hn, hv => hg h hn hv
 | m + 1, cd, hd, hL, hw, hg, c, st, a, w, h, hn, hv => by
   cases cd with
   | seq x y =>
     have hv : (dt T S D L x st fun e aP => match e with
       | .normal => E8 T S D L m y aP g k
       | e => k e aP) = some r := hv
     unfold eA at hd; rw [Bool.and_eq_true] at hd; refine wp_seq (xc BQ hD x hd.1 hL.1 hw.1 (fun {e} {c} {st} {a} {w} h1 h2 h3 => ?_) h hn hv)
     cases e with
     | normal => exact E9 BQ hD hk m y hd.2 hL.2 hw.2 hg h1 h2 h3
     | exit m => exact hk h1 h2 h3
     | ret => exact hk h1 h2 h3
   | _ => have hv : (none : Option R) = some r := hv; cases hv
def UB {R : Type} (P : Program) (w0 : World) (mu : Mu) (n : Nat) (k : Ex → St → Option R) (r : R) (b : Code) (hp : List (Option AP)) (g : ak (ar hp) → Option R) : Prop :=
 ∀ x, g x = some r → ∀ {Q : Exit → Act → World → Prop}, Ib w0 mu n r k Q → ∀ {c : Cz} {a : Act} {w : World}, Rel w0 mu c (l6 hp x) a w → a.tmps.size = n → b.wp P Q a w
structure UC (tr : Tr) (S : hU) (D : jd) (n : Nat) (ps : List AP) {R : Type} (L : kY R) (k : Ex → St → Option R) (P : Program) (b : Code) (hp : List (Option AP)) (g : ak (ar hp) → Option R) : Prop where
 ok : ∀ (w0 : World) (mu : Mu) (r : R), ka ps mu → eA n b = true → du (fun id ops => AN ops (D id) = true) b → cR (km P w0 mu n L r) b → UB P w0 mu n k r b hp g
theorem Lo {P : Program} {tr : Tr} (hT : tr.all (vr P) = true) (hE : uX P (jI tr)) (hm : P.follows .mixedOrders = true) {S : hU} (hS : kr P S) {D : jd} {n : Nat} {ps : List AP} {R : Type} {L : kY R} {k : Ex → St → Option R} {b : Code} {hp : List (Option AP)} {g : ak (ar hp) → Option R}
   (h : ∀ x, dt (jI tr) S D L b (l6 hp x) k = g x) : UC tr S D n ps L k P b hp g :=
 ⟨fun w0 mu _ _ hd hw hL x hx _ hk _ _ _ hr hn => xc (nY (iP hT) hE hS w0 mu n) (qQ (iP hT) hE hm (nY (iP hT) hE hS w0 mu n)) b hd hL hw hk hr hn ((h x).trans hx)⟩
theorem Fa {P : Program} {tr : Tr} (hT : tr.all (vr P) = true) (hE : uX P (jI tr)) (hm : P.follows .mixedOrders = true) {S : hU} (hS : kr P S) {D : jd} {f : FuncId} {fn : Func} {code b' : Code} {n m : Nat} {ps : List AP} {rs : List RP}
   {L : kY (ak (bQ rs (bc ps)))} {t : ak (ar (ps.map some)) → Option (ak (bQ rs (bc ps)))} {jh : List (Option AP)} {g' : ak (ar jh) → Option (ak (bQ rs (bc ps)))}
   (hf : P.funcs[f]? = some fn) (hb : fn.body = some code) (m7 : Pc (jI tr) D fn code n ps rs = true) (E3 : (fn.name == "runtime.NumGoroutine") = false)
   (hL : ∀ (w0 : World) (mu : Mu) (y : ak (bQ rs (bc ps))), ka ps mu → ∀ p ∈ cC code, km P w0 mu n L y p.1 p.2)
   (hr : yZ m code = b') (oP : fp ps jh = true) (GF : ∀ x, E8 (jI tr) S D L m code (start n ps x) (fun st => (AL st jh).bind g') (xo rs ps) = t x)
   (hs : UC tr S D n ps L (xo rs ps) P b' jh g') : nS P f (jV ps rs t) := by
 unfold Pc at m7; rw [Bool.and_eq_true, Bool.and_eq_true, Bool.and_eq_true, Bool.and_eq_true] at m7; obtain ⟨h1, h2, h3, h4, h5⟩ := m7; refine ⟨fun c w mu lc cN args A y hH hA gm ho => ?_, fn, hf, E3, by rw [hb]; rfl⟩; unfold jV at gm
 cases hx : eo ps cN with
 | none => rw [hx] at gm; cases gm
 | some x =>
   rw [hx] at gm; simp only [Option.some.injEq] at gm; subst gm; have zJ : t x = some y := ho; obtain ⟨zI, c', Xx, ff, AJ, Io, AI, Jg, hR⟩ := EV hH hA hx (Nat.le_of_ble_eq_true h2); refine calls_of_wp hf hb ?_; have hn := Nat.eq_of_beq_eq_true h1; rw [hn]; have jv : (args ++ Array.replicate (n - args.size) undef).size = n := by
     have : args.size ≤ n := by
       have h6 := Nat.le_of_ble_eq_true h2; have h7 := (uK ps 0 cN args.toList hx hA).2.1; simp at h7; omega
     simp; omega
   have hlp := n4 code (hL w zI y AJ); have hdr := qc code h5; refine E9 (nY (iP hT) hE hS w zI n) (qQ (iP hT) hE hm (nY (iP hT) hE hS w zI n)) (k := xo rs ps) (r := y) (fun {e} {c1} {xY} {a1} {w1} q1 q2 q3 => ?_) m code h3 hlp hdr (fun {c1} {xY} {a1} {w1} q1 q2 q3 => ?_) hR jv ((GF x).trans zJ)
   · obtain ⟨he, v, mz, c2, Gv, hV, hX⟩ := GD (P := P) (iP hT) Xx ff q1 (uM a1.tmps _ _ h4) Jg.symm (by rw [← AI]; simp) Io q3; have Ax : a1.defers = [] ∧ ∃ v, (results fn a1.tmps).run P w1 = .ok v w1 ∧ (∃ v', Ending.returned v = .returned v' ∧ ∃ c', yL w mu c' w1 ∧ oT c' w1 (eV rs (bc ps) y).1 v' ∧ gd c' w1 lc 0 cN args.toList (kt ps (eV rs (bc ps) y).2)) :=
       ⟨q1.plain, v, mz, v, rfl, c2, Gv, hV, hX⟩
     rcases he with rfl | rfl <;> exact Ax
   · obtain ⟨z, hz, q4⟩ := Option.bind_eq_some_iff.1 q3; obtain ⟨c2, q5⟩ := AM q1 AJ oP hz; rw [hr]; refine hs.ok w zI y AJ (hr ▸ CK m code h3) (hr ▸ AZ m code hdr) (hr ▸ za m code hlp) z q4 (fun {e} {c1} {xY} {a1} {w1} q1 q2 q3 => ?_) q5 q2; obtain ⟨he, v, mz, c2, Gv, hV, hX⟩ := GD (P := P) (iP hT) Xx ff q1 (uM a1.tmps _ _ h4) Jg.symm (by rw [← AI]; simp) Io q3; have Ax : a1.defers = [] ∧ ∃ v, (results fn a1.tmps).run P w1 = .ok v w1 ∧ (∃ v', Ending.returned v = .returned v' ∧ ∃ c', yL w mu c' w1 ∧ oT c' w1 (eV rs (bc ps) y).1 v' ∧ gd c' w1 lc 0 cN args.toList (kt ps (eV rs (bc ps) y).2)) :=
       ⟨q1.plain, v, mz, v, rfl, c2, Gv, hV, hX⟩
     rcases he with rfl | rfl <;> exact Ax
end Go.TM
namespace Go.TM
open Go Go.RowKit
noncomputable section
structure TK (P : Program) where
 tr : Tr
 hT : tr.all (vr P) = true
 hE : uX P (jI tr)
 hm : P.follows .mixedOrders = true
structure KF (P : Program) where
 f : FuncId
 m : Pm × Pm × Pm
 yz : td
 ok : nS P f yz
def KF.sl {P : Program} (k : KF P) : Nat × (Pm × Pm × Pm × td) := (k.f, (k.m.1, k.m.2.1, k.m.2.2, k.yz))
def QV {P : Program} : List (KF P) → QS
 | [] => []
 | k :: l => k.sl :: QV l
theorem CL {P : Program} : (l : List (KF P)) → kr P (vN (QV l))
 | [] => Lk
 | k :: l => Jo k.ok (CL l)
def kw {P : Program} {f : FuncId} {s : td} (h : nS P f s) : KF P := ⟨f, (.shr, .shr, .shr), s, h⟩
def kv {P : Program} (m : Pm × Pm × Pm) {f : FuncId} {s : td} (h : nS P f s) : KF P := ⟨f, m, s, h⟩
structure LD where
 i : Nat
 b : Code
 hp : List (Option AP)
 e : List (Option AP)
 q : List (Option AP)
 r : ak (ar hp) → Option (Sum (ak (ar hp)) (Sum (ak (ar e)) (ak (ar q))))
def LD.Ok (l : LD) (P : Program) (n : Nat) (ps : List AP) : Prop :=
 ∀ {R : Type} (L : kY R) (y : R) (w0 : World) (mu : Mu), (∀ st k, L l.i l.b st k = ym l.hp l.e l.q l.r st k) → ka ps mu → km P w0 mu n L y l.i l.b
structure QW (P : Program) (n : Nat) (ps : List AP) where
 d : LD
 ok : d.Ok P n ps
def kJ {P : Program} {n : Nat} {ps : List AP} {R : Type} : List (QW P n ps) → kY R
 | [] => SS
 | l :: ls => fun id b st k => bif Nat.beq id l.d.i then ym l.d.hp l.d.e l.d.q l.d.r st k else kJ ls id b st k
def A3 {P : Program} {n : Nat} {ps : List AP} : List (QW P n ps) → List (Nat × Code)
 | [] => []
 | l :: ls => (l.d.i, l.d.b) :: A3 ls
def Fb {P : Program} {n : Nat} {ps : List AP} : List (QW P n ps) → Bool
 | [] => true
 | l :: ls => ls.all (fun m => !Nat.beq m.d.i l.d.i) && Fb ls
theorem Lp {P : Program} {n : Nat} {ps : List AP} {R : Type} : (ls : List (QW P n ps)) → Fb ls = true → ∀ l ∈ ls, ∀ st (k : Ex → St → Option R), kJ ls l.d.i l.d.b st k = ym l.d.hp l.d.e l.d.q l.d.r st k
 | [], _, l, h => by cases h
 | m :: ls, hb, l, h => by
   intro st k; unfold Fb at hb; rw [Bool.and_eq_true] at hb; rcases List.mem_cons.1 h with rfl | h
   · show (bif Nat.beq l.d.i l.d.i then _ else _) = _; rw [Nat.beq_refl]; rfl
   · show (bif Nat.beq l.d.i m.d.i then _ else kJ ls l.d.i l.d.b st k) = _; have := List.all_eq_true.1 hb.1 l h; rw [Bool.not_eq_true'] at this; rw [this]; exact Lp ls hb.2 l h st k
theorem Iv {P : Program} {n : Nat} {ps : List AP} : (ls : List (QW P n ps)) → ∀ p ∈ A3 ls, ∃ l ∈ ls, p = (l.d.i, l.d.b)
 | [], p, h => by cases h
 | m :: ls, p, h => by
   rcases List.mem_cons.1 h with rfl | h
   · exact ⟨m, List.mem_cons_self, rfl⟩
   · obtain ⟨l, h1, h2⟩ := Iv ls p h; exact ⟨l, List.mem_cons_of_mem _ h1, h2⟩
theorem Dv {P : Program} {n : Nat} {ps : List AP} {R : Type} {ls : List (QW P n ps)} (hb : Fb ls = true) {c : Code} (hc : cC c = A3 ls) (y : R) (w0 : World) (mu : Mu) (hs : ka ps mu) : ∀ p ∈ cC c, km P w0 mu n (kJ ls) y p.1 p.2 := by
 rw [hc]; intro p hp; obtain ⟨l, hl, rfl⟩ := Iv ls p hp; exact l.ok (kJ ls) y w0 mu (Lp ls hb l hl) hs
structure FC (P : Program) where
 t : TK P
 l : List (KF P)
 D : jd
 fn : Func
 ps : List AP
abbrev FC.code {P : Program} (F : FC P) : Code := Lj F.fn
abbrev FC.S {P : Program} (F : FC P) : hU := vN (QV F.l)
abbrev FC.T {P : Program} (F : FC P) : jb := jI F.t.tr
abbrev FC.KL {P : Program} (F : FC P) : Type := QW P F.fn.ntmps F.ps
abbrev FC.Ok {P : Program} (F : FC P) (l : LD) : Prop := l.Ok P F.fn.ntmps F.ps
abbrev FC.fin {P : Program} (F : FC P) (rs : List RP) : Ex → St → Option (ak (bQ rs (bc F.ps))) := xo rs F.ps
def FC.lp {P : Program} (F : FC P) (j : Nat) : Code := Is F.code j
theorem FC.kl {P : Program} (F : FC P) {l : LD} (ls : List F.KL) (h1 : (CF F.D F.ps l.hp l.e l.q F.fn.ntmps l.b && Fb ls) = true) (h2 : cC l.b = A3 ls)
   (ht : ∀ x, dt F.T F.S F.D (kJ ls) l.b (l6 l.hp x) (yl l.i l.hp l.e l.q) = l.r x) : F.Ok l := by
 rw [Bool.and_eq_true] at h1; exact fun _ _ w0 mu hL hs => Jp F.t.hT F.t.hE F.t.hm (CL F.l) hs h1.1 (fun z => Dv h1.2 h2 z w0 mu hs) ht hL
theorem FC.pN {P : Program} (F : FC P) {l : LD} (h : ∀ x, (CF F.D F.ps l.hp l.e l.q F.fn.ntmps l.b && (cC l.b).isEmpty, dt F.T F.S F.D SS l.b (l6 l.hp x) (yl l.i l.hp l.e l.q)) = (true, l.r x)) : F.Ok l := by
 have h1 := congrArg Prod.fst (h (qE _)); have h1 : (CF F.D F.ps l.hp l.e l.q F.fn.ntmps l.b && (cC l.b).isEmpty) = true := h1; rw [Bool.and_eq_true] at h1; have ht : ∀ x, dt F.T F.S F.D SS l.b (l6 l.hp x) (yl l.i l.hp l.e l.q) = l.r x := fun x => congrArg Prod.snd (h x)
 have g : F.Ok l := F.kl [] (by rw [h1.1]; rfl) (List.isEmpty_iff.1 h1.2) ht; exact @g
abbrev FC.Y7 {P : Program} (F : FC P) (rs : List RP) (t : NZ (ar (F.ps.map some)) (Option (ak (bQ rs (bc F.ps))))) : td := jV F.ps rs (pM (ar (F.ps.map some)) t)
abbrev FC.Kn {P : Program} (F : FC P) (rs : List RP) (f : FuncId) (t : NZ (ar (F.ps.map some)) (Option (ak (bQ rs (bc F.ps))))) : Prop := nS P f (F.Y7 rs t)
def FC.Pe {P : Program} (F : FC P) (rs : List RP) : Bool := F.fn.body.isSome && (Pc F.T F.D F.fn F.code F.fn.ntmps F.ps rs && !(F.fn.name == "runtime.NumGoroutine"))
theorem FC.GM {P : Program} {F : FC P} {rs : List RP} (h : F.Pe rs = true) : F.fn.body = some F.code ∧ Pc F.T F.D F.fn F.code F.fn.ntmps F.ps rs = true ∧ (F.fn.name == "runtime.NumGoroutine") = false := by
 unfold FC.Pe at h; rw [Bool.and_eq_true, Bool.and_eq_true, Bool.not_eq_true'] at h; obtain ⟨h1, h2, h3⟩ := h; refine ⟨?_, h2, h3⟩; obtain ⟨c, hc⟩ := Option.isSome_iff_exists.1 h1; unfold FC.code Lj; rw [hc]
theorem FC.kf {P : Program} (F : FC P) {rs : List RP} {f : FuncId} {t : NZ (ar (F.ps.map some)) (Option (ak (bQ rs (bc F.ps))))} (ls : List F.KL) (hf : P.funcs[f]? = some F.fn) (h1 : (F.Pe rs && Fb ls) = true) (h2 : cC F.code = A3 ls)
   (ht : ∀ x, dt F.T F.S F.D (kJ ls) F.code (start F.fn.ntmps F.ps x) (F.fin rs) = pM (ar (F.ps.map some)) t x) : F.Kn rs f t := by
 rw [Bool.and_eq_true] at h1; obtain ⟨hb, hc, hn⟩ := F.GM h1.1; exact N0 F.t.hT F.t.hE F.t.hm (CL F.l) (D := F.D) (L := kJ ls) hf hb hc hn (fun w0 mu y hs => Dv h1.2 h2 y w0 mu hs) ht
theorem FC.uZ {P : Program} (F : FC P) {rs : List RP} {f : FuncId} {t : NZ (ar (F.ps.map some)) (Option (ak (bQ rs (bc F.ps))))} (hf : P.funcs[f]? = some F.fn)
   (h : ∀ x, (F.Pe rs && (cC F.code).isEmpty, dt F.T F.S F.D SS F.code (start F.fn.ntmps F.ps x) (F.fin rs)) = (true, pM (ar (F.ps.map some)) t x)) : F.Kn rs f t := by
 have h1 := congrArg Prod.fst (h (qE _)); have h1 : (F.Pe rs && (cC F.code).isEmpty) = true := h1; rw [Bool.and_eq_true] at h1; exact F.kf [] hf (by rw [h1.1]; rfl) (List.isEmpty_iff.1 h1.2) fun x => congrArg Prod.snd (h x)
theorem FC.Y8 {P : Program} (F : FC P) {rs : List RP} {f : FuncId} {t : NZ (ar (F.ps.map some)) (Option (ak (bQ rs (bc F.ps))))} (hf : P.funcs[f]? = some F.fn) (h1 : (F.Pe rs && (cC F.code).isEmpty) = true)
   (ht : ∀ x, dt F.T F.S F.D SS F.code (start F.fn.ntmps F.ps x) (F.fin rs) = pM (ar (F.ps.map some)) t x) : F.Kn rs f t := by
 rw [Bool.and_eq_true] at h1; exact F.kf [] hf (by rw [h1.1]; rfl) (List.isEmpty_iff.1 h1.2) ht
theorem FC.XE {P : Program} (F : FC P) {l : LD} (h1 : (CF F.D F.ps l.hp l.e l.q F.fn.ntmps l.b && (cC l.b).isEmpty) = true)
   (ht : ∀ x, dt F.T F.S F.D SS l.b (l6 l.hp x) (yl l.i l.hp l.e l.q) = l.r x) : F.Ok l := by
 rw [Bool.and_eq_true] at h1; have g : F.Ok l := F.kl [] (by rw [h1.1]; rfl) (List.isEmpty_iff.1 h1.2) ht; exact @g
theorem FC.Y9 {P : Program} (F : FC P) {rs : List RP} {f : FuncId} {t : NZ (ar (F.ps.map some)) (Option (ak (bQ rs (bc F.ps))))} (ls : List F.KL) (hf : P.funcs[f]? = some F.fn) (r : RT) (qs : List AP) (hq : F.ps = .val false [.shr r] :: qs) (h1 : (F.Pe rs && Fb ls) = true) (h2 : cC F.code = A3 ls)
   (h4 : ∀ x, dt F.T F.S F.D (kJ ls) F.code (aT (start F.fn.ntmps F.ps (hq ▸ (([] : List (ak r)), x))) (some 0) (.one .di)) (F.fin rs) = pM (ar (F.ps.map some)) t (hq ▸ (([] : List (ak r)), x)))
   (h5 : ∀ x, dt F.T F.S F.D (kJ ls) F.code (aT (start F.fn.ntmps F.ps (hq ▸ x)) (some 0) (.one (.nn r x.1))) (F.fin rs) = pM (ar (F.ps.map some)) t (hq ▸ x)) : F.Kn rs f t := by
 rw [Bool.and_eq_true] at h1; obtain ⟨hb, hc, hn⟩ := F.GM h1.1; obtain ⟨tt, l, D, fn, ps⟩ := F; simp only at hq; subst hq; exact E7 tt.hT tt.hE tt.hm (CL l) (D := D) (L := kJ ls) hf hb hc hn (fun w0 mu y hs => Dv h1.2 h2 y w0 mu hs) h4 h5
theorem FC.UD {P : Program} (F : FC P) (ls : List F.KL) {R : Type} {k : Ex → St → Option R} {b : Code} {hp : List (Option AP)} {g : ak (ar hp) → Option R} (h : ∀ x, dt F.T F.S F.D (kJ ls) b (l6 hp x) k = g x) : UC F.t.tr F.S F.D F.fn.ntmps F.ps (kJ ls) k P b hp g :=
 Lo F.t.hT F.t.hE F.t.hm (CL F.l) h
theorem FC.Za {P : Program} (F : FC P) (ls : List F.KL) {rs : List RP} {f : FuncId} {t : NZ (ar (F.ps.map some)) (Option (ak (bQ rs (bc F.ps))))} (hf : P.funcs[f]? = some F.fn) (m : Nat) {b' : Code} {jh : List (Option AP)} {g' : ak (ar jh) → Option (ak (bQ rs (bc F.ps)))} (hs : UC F.t.tr F.S F.D F.fn.ntmps F.ps (kJ ls) (F.fin rs) P b' jh g')
   (h1 : (F.Pe rs && (Fb ls && fp F.ps jh)) = true) (h2 : cC F.code = A3 ls) (hr : yZ m F.code = b') (ht : ∀ x, E8 F.T F.S F.D (kJ ls) m F.code (start F.fn.ntmps F.ps x) (fun st => (AL st jh).bind g') (F.fin rs) = pM (ar (F.ps.map some)) t x) : F.Kn rs f t := by
 rw [Bool.and_eq_true, Bool.and_eq_true] at h1; obtain ⟨hb, hc, hn⟩ := F.GM h1.1; exact Fa F.t.hT F.t.hE F.t.hm (CL F.l) (D := F.D) (L := kJ ls) hf hb hc hn (fun w0 mu y hs => Dv h1.2.1 h2 y w0 mu hs) hr h1.2.2 ht hs
def sp : List (Nat × AP) → Nat → List (Option AP)
 | [], k => nn k
 | (g, p) :: l, k => nn g ++ some p :: sp l k
abbrev vl (l : List OP) : AP := .val false l
abbrev va (l : List OP) : AP := .val true l
abbrev Pl.a (i : Nat) (p : Pl) : Pl := .op i .any p
abbrev Pl.t (i : Nat) (p : Pl) : Pl := .op i .take p
abbrev Pl.o (i : Nat) (p : Pl) : Pl := .op i .one p
abbrev Pl.l (i : Nat) (p : Pl) : Pl := .op i .last p
def dr (i : Nat) (p : Pl) (D : jd := lI) : jd := fun id => bif Nat.beq id i then p else D id
end
end Go.TM
