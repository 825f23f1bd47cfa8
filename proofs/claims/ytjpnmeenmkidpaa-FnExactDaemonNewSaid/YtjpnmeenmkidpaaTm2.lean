/- A machine over trees: an evaluator of the code, and that what it finds is so; part 2. -/
import Derived.Test.YtjpnmeenmkidpaaTm1
import Derived.Laws.Sem
import Derived.Deep.LoopGhost
import Derived.OrdersHeld
set_option linter.unusedSimpArgs false
set_option linter.unusedVariables false
/- The tree machine, part 21: what a call is handed and hands back, by itself. -/
namespace Go.TM
open Go Go.RowKit

/-- An array at a value, under a label, in a place. -/
def OwnAt (c : Cz) (w : World) (l : Lb) (lc : Loc) (A : Arr) (v : Value) : Prop :=
  v.oneCell' = true ∧ SlAt lc A.r.width 0 A.xs.length v ∧ A.own = true ∧
  match lc with
  | .nil => A.xs = []
  | .at b off cap => c.own b = some l ∧ A.xs.length ≤ cap ∧ (∃ cur ty, w.heap[b]? = some (.cells cur ty (0, 0)) ∧ off + cap * A.r.width ≤ cur.size) ∧
      ∀ i x, A.xs[i]? = some x → RepR w c.ok A.r b (off + i * A.r.width) x

/-- Cells, by themselves: the arrays under the labels f j, f (j + 1), .. -/
def HoldL (c : Cz) (w : World) (f : Nat → Lb) : (j : Nat) → List OV → List Value → Prop
  | _, [], vs => vs = []
  | j, .int k n :: os, vs => ∃ l, vs = .int k n :: l ∧ HoldL c w f (j + 1) os l
  | j, .bool b :: os, vs => ∃ l, vs = .bool b :: l ∧ HoldL c w f (j + 1) os l
  | j, .str s :: os, vs => ∃ l, vs = .string s :: l ∧ HoldL c w f (j + 1) os l
  | j, .nils :: os, vs => ∃ l, vs = .slice none 0 0 :: l ∧ HoldL c w f (j + 1) os l
  | j, .shr r xs :: os, vs => ∃ v l, vs = v :: l ∧ RepTy w c.ok (.sl r) v xs ∧ HoldL c w f (j + 1) os l
  | j, .own A :: os, vs => ∃ v l, vs = v :: l ∧ (∃ lc, OwnAt c w (f j) lc A v) ∧ HoldL c w f (j + 1) os l

/-- A box, by itself. -/
def BoxAt (c : Cz) (w : World) (i : Nat) (os : List OV) (v : Value) : Prop :=
  ∃ blk vs ty, v = .pointer (some ⟨blk, 0, none⟩) ∧ c.own blk = some (.pbox i) ∧ w.heap[blk]? = some (.cells vs ty (0, 0)) ∧ HoldL c w (.pend i) 0 os vs.toList

/-- The place of a lent cell. -/
def LocAt (c : Cz) (w : World) (i : Nat) (lc : Nat → Loc) (j : Nat) (o : OV) (u : Value) : Prop :=
  match o with
  | .own A => OwnAt c w (.pend i j) (lc j) A u
  | .nils => lc j = .nil
  | _ => True

/-- An argument, by itself; 'lc': the place of what is lent. -/
def HoldA (c : Cz) (w : World) (i : Nat) (lc : Nat → Loc) : AV → Value → Prop
  | .val false os, v => HoldL c w (.pend i) 0 os [v]
  | .val true os, v => ∃ vs, v = .agg vs ∧ HoldL c w (.pend i) 0 os vs.toList
  | .io A, v => OwnAt c w (.pend i 0) (lc 0) A v
  | .box os, v => BoxAt c w i os v
  | .lend os, v => ∃ vs, v = .agg vs ∧ HoldL c w (.pend i) 0 os vs.toList ∧ ∀ j o u, os[j]? = some o → vs.toList[j]? = some u → LocAt c w i lc j o u

def HoldAs (c : Cz) (w : World) (lc : Nat → Nat → Loc) : (i : Nat) → List AV → List Value → Prop
  | _, [], vs => vs = []
  | i, a :: as, vs => ∃ v l, vs = v :: l ∧ HoldA c w i (lc i) a v ∧ HoldAs c w lc (i + 1) as l

/-- What comes back of the arguments. -/
def LendX (c : Cz) (w : World) (i : Nat) (lc : Nat → Loc) (os : List OV) (us : List Value) (As : List (Option Arr)) : Prop :=
  ∀ j A, os[j]? = some (.own A) → ∃ B u, nth As j = some (some B) ∧ us[j]? = some u ∧ B.r.width = A.r.width ∧ B.xs.length = A.xs.length ∧ OwnAt c w (.pend i j) (lc j) B u
def HoldX (c : Cz) (w : World) (lc : Nat → Nat → Loc) : (i : Nat) → List AV → List Value → List XV → Prop
  | _, [], _, xs => xs = []
  | _, _ :: _, [], _ => False
  | i, .val _ _ :: as, _ :: vs, xs => HoldX c w lc (i + 1) as vs xs
  | i, .io A :: as, v :: vs, xs => ∃ B l, xs = .io B :: l ∧ B.r.width = A.r.width ∧ B.xs.length = A.xs.length ∧ OwnAt c w (.pend i 0) (lc i 0) B v ∧ HoldX c w lc (i + 1) as vs l
  | i, .box _ :: as, v :: vs, xs => ∃ os l, xs = .box os :: l ∧ BoxAt c w i os v ∧ HoldX c w lc (i + 1) as vs l
  | i, .lend os :: as, v :: vs, xs => ∃ As l, xs = .lend As :: l ∧ (∃ us, v = .agg us ∧ LendX c w i (lc i) os us.toList As) ∧ HoldX c w lc (i + 1) as vs l

def HoldR (c : Cz) (w : World) : (j : Nat) → List RV → List Value → Prop
  | _, [], vs => vs = []
  | j, .one o :: rs, vs => ∃ v l, vs = v :: l ∧ HoldL c w .pres j [o] [v] ∧ HoldR c w (j + 1) rs l
  | j, .agg os :: rs, vs => ∃ us l, vs = .agg us :: l ∧ HoldL c w .pres j os us.toList ∧ HoldR c w (j + os.length) rs l
  | j, .ptr os :: rs, vs => ∃ v l, vs = v :: l ∧ (∃ blk us ty, v = .pointer (some ⟨blk, 0, none⟩) ∧ c.own blk = some (.pres j) ∧ w.heap[blk]? = some (.cells us ty (0, 0)) ∧ HoldL c w .pres (j + 1) os us.toList) ∧ HoldR c w (j + (os.length + 1)) rs l

/-- The answer. -/
def HoldV (c : Cz) (w : World) (rs : List RV) (v : Value) : Prop :=
  (∃ r, rs = [r] ∧ HoldR c w 0 [r] [v]) ∨ (rs.length ≠ 1 ∧ ∃ vs, v = .tuple vs ∧ HoldR c w 0 rs vs.toList)

/-- What of the worlds a call keeps. -/
structure Bas (w0 : World) (mu : Mu) (c : Cz) (w : World) : Prop where
  owned : ∀ b l, c.own b = some l → b < w.heap.size ∧ (l = .out ∨ w0.heap.size ≤ b ∨ mu.m b)
  free : ∀ b, b < w0.heap.size → c.own b = none → mu.m b ∨ mu.ok b
  kept : w.os = w0.os ∧ w.tape = w0.tape ∧ w.output = w0.output ∧ w0.heap.size ≤ w.heap.size
  old : ∀ k, k < w0.heap.size → ¬ mu.m k → w.heap[k]? = w0.heap[k]?

theorem Rel.bas {w0 : World} {mu : Mu} {c : Cz} {st : St} {a : Act} {w : World} (h : Rel w0 mu c st a w) : Bas w0 mu c w := ⟨h.owned, h.free, h.kept, h.old⟩

/-- Is it the label of what is handed? -/
def Lb.handed : Lb → Bool
  | .pend _ _ => true
  | .pbox _ => true
  | _ => false

/-- What a call is handed: lent is what is labelled so; read is what has no label. -/
structure Handed (c : Cz) (w : World) (mu : Mu) : Prop where
  m : ∀ b, mu.m b ↔ ∃ l, c.own b = some l ∧ l.handed = true
  ok : ∀ b, mu.ok b ↔ c.own b = none
  lt : ∀ b l, c.own b = some l → b < w.heap.size
  lb : ∀ b l, c.own b = some l → l = .out ∨ l.handed = true

/-- THE CONTRACT of a function: 'n': how many parameters. -/
def FnOk (P : Program) (f : FuncId) (sem : Sem1) : Prop :=
  ∀ (c : Cz) (w : World) (mu : Mu) (lc : Nat → Nat → Loc) (avs : List AV) (args : Array Value) (A : Ans) (x : denR A.r), Handed c w mu → HoldAs c w lc 0 avs args.toList → sem avs = some A → A.o = some x →
    Calls P f args w fun e w' => ∃ v, e = .returned v ∧ ∃ c', Bas w mu c' w' ∧ HoldV c' w' (A.res x).outs v ∧ HoldX c' w' lc 0 avs args.toList (A.res x).exts

/-! ### How it is carried on -/
mutual
theorem RepTy.plain {w : World} {ok ok' : Nat → Prop} : (t : Ty) → (v : Value) → (x : den t) → RT.slices (.cons t .nil) = false → RepTy w ok t v x → RepTy w ok' t v x
  | .int _, _, _, _, h => by unfold RepTy at h ⊢; exact h
  | .bool, _, _, _, h => by unfold RepTy at h ⊢; exact h
  | .str, _, _, _, h => by unfold RepTy at h ⊢; exact h
  | .sl _, _, _, hs, _ => by simp [RT.slices] at hs
theorem RepR.plain {w : World} {ok ok' : Nat → Prop} : (r : RT) → (b off : Nat) → (x : denR r) → r.slices = false → RepR w ok r b off x → RepR w ok' r b off x
  | .nil, _, _, _, _, _ => by unfold RepR; trivial
  | .cons t r, b, off, x, hs, h => by
    unfold RepR at h ⊢
    obtain ⟨⟨v, h1, h2⟩, h3⟩ := h
    refine ⟨⟨v, h1, RepTy.plain t v x.1 ?_ h2⟩, RepR.plain r b (off + 1) x.2 ?_ h3⟩
    · cases t <;> simp_all [RT.slices]
    · cases t <;> simp_all [RT.slices]
end

/-- From one map to another in one world: what is pending stays so. -/
structure Pass (c c' : Cz) (pd : Lb → Prop) : Prop where
  pend : ∀ b l, pd l → c.own b = some l → c'.own b = some l
  ok : ∀ b, c.ok b → c'.ok b

theorem OwnAt.pass {c c' : Cz} {w : World} {l : Lb} {lc : Loc} {A : Arr} {v : Value} (hp : ∀ b, c.own b = some l → c'.own b = some l) (ho : (∀ b, c.ok b → c'.ok b) ∨ A.r.slices = false) (h : OwnAt c w l lc A v) : OwnAt c' w l lc A v := by
  unfold OwnAt at h ⊢
  obtain ⟨h1, h2, h3, h4⟩ := h
  refine ⟨h1, h2, h3, ?_⟩
  cases lc with
  | nil => exact h4
  | «at» b off cap =>
    obtain ⟨g1, g2, g3, g4⟩ := h4
    refine ⟨hp b g1, g2, g3, fun i x hx => ?_⟩
    rcases ho with ho | ho
    · obtain ⟨cur, ty, g5, _⟩ := g3
      have hlt : b < w.heap.size := (Array.getElem?_eq_some_iff.1 g5).1
      exact RepR.stays ⟨Nat.le_refl _, fun _ _ _ => rfl, fun b _ h => ho b h⟩ _ _ _ _ rfl (g4 i x hx)
    · exact RepR.plain _ _ _ _ ho (g4 i x hx)

theorem HoldL.pass {c c' : Cz} {w : World} {f : Nat → Lb} (hp : ∀ b j, c.own b = some (f j) → c'.own b = some (f j)) : (os : List OV) → ((∀ b, c.ok b → c'.ok b) ∨ os.all OV.plain = true) → (j : Nat) → (vs : List Value) → HoldL c w f j os vs → HoldL c' w f j os vs
  | [], _, _, _, h => h
  | .int k n :: os, ho, j, vs, h => by
    obtain ⟨l, h1, h2⟩ := h
    exact ⟨l, h1, HoldL.pass hp os (ho.imp id fun h => by simp at h; simpa using h.2) (j + 1) l h2⟩
  | .bool k :: os, ho, j, vs, h => by
    obtain ⟨l, h1, h2⟩ := h
    exact ⟨l, h1, HoldL.pass hp os (ho.imp id fun h => by simp at h; simpa using h.2) (j + 1) l h2⟩
  | .str k :: os, ho, j, vs, h => by
    obtain ⟨l, h1, h2⟩ := h
    exact ⟨l, h1, HoldL.pass hp os (ho.imp id fun h => by simp at h; simpa using h.2) (j + 1) l h2⟩
  | .nils :: os, ho, j, vs, h => by
    obtain ⟨l, h1, h2⟩ := h
    exact ⟨l, h1, HoldL.pass hp os (ho.imp id fun h => by simp at h; simpa using h.2) (j + 1) l h2⟩
  | .shr r xs :: os, ho, j, vs, h => by
    obtain ⟨v, l, h1, h2, h3⟩ := h
    refine ⟨v, l, h1, ?_, HoldL.pass hp os (ho.imp id fun h => by simp at h; simpa using h.2) (j + 1) l h3⟩
    rcases ho with ho | ho
    · exact RepTy.stays ⟨Nat.le_refl _, fun _ _ _ => rfl, fun b _ h => ho b h⟩ _ _ _ h2
    · simp [OV.plain] at ho
  | .own A :: os, ho, j, vs, h => by
    obtain ⟨v, l, h1, ⟨lc, h2⟩, h3⟩ := h
    refine ⟨v, l, h1, ⟨lc, h2.pass (fun b => hp b j) (ho.imp id fun h => ?_)⟩, HoldL.pass hp os (ho.imp id fun h => by simp at h; simpa using h.2) (j + 1) l h3⟩
    simp [OV.plain] at h
    exact h.1

theorem BoxAt.pass {c c' : Cz} {w : World} {i : Nat} {os : List OV} {v : Value} (hb : ∀ b, c.own b = some (.pbox i) → c'.own b = some (.pbox i)) (hp : ∀ b j, c.own b = some (.pend i j) → c'.own b = some (.pend i j)) (ho : (∀ b, c.ok b → c'.ok b) ∨ os.all OV.plain = true) (h : BoxAt c w i os v) : BoxAt c' w i os v := by
  obtain ⟨blk, vs, ty, h1, h2, h3, h4⟩ := h
  exact ⟨blk, vs, ty, h1, hb _ h2, h3, HoldL.pass hp os ho 0 _ h4⟩

theorem HoldR.pass {c c' : Cz} {w : World} (hp : ∀ b j, c.own b = some (.pres j) → c'.own b = some (.pres j)) : (rs : List RV) → ((∀ b, c.ok b → c'.ok b) ∨ rs.all (fun o => o.ovs.all OV.plain) = true) → (j : Nat) → (vs : List Value) → HoldR c w j rs vs → HoldR c' w j rs vs
  | [], _, _, _, h => h
  | .one o :: rs, ho, j, vs, h => by
    obtain ⟨v, l, h1, h2, h3⟩ := h
    exact ⟨v, l, h1, HoldL.pass hp [o] (ho.imp id fun h => by simp [RV.ovs] at h; simpa using h.1) _ _ h2, HoldR.pass hp rs (ho.imp id fun h => by simp at h; simpa using h.2) _ _ h3⟩
  | .agg os :: rs, ho, j, vs, h => by
    obtain ⟨v, l, h1, h2, h3⟩ := h
    exact ⟨v, l, h1, HoldL.pass hp os (ho.imp id fun h => by simp [RV.ovs] at h; simpa using h.1) _ _ h2, HoldR.pass hp rs (ho.imp id fun h => by simp at h; simpa using h.2) _ _ h3⟩
  | .ptr os :: rs, ho, j, vs, h => by
    obtain ⟨v, l, h1, ⟨blk, us, ty, g1, g2, g3, g4⟩, h3⟩ := h
    exact ⟨v, l, h1, ⟨blk, us, ty, g1, hp _ _ g2, g3, HoldL.pass hp os (ho.imp id fun h => by simp [RV.ovs] at h; simpa using h.1.2) _ _ g4⟩, HoldR.pass hp rs (ho.imp id fun h => by simp at h; simpa using h.2) _ _ h3⟩

theorem HoldV.pass {c c' : Cz} {w : World} (hp : ∀ b j, c.own b = some (.pres j) → c'.own b = some (.pres j)) {rs : List RV} (ho : (∀ b, c.ok b → c'.ok b) ∨ rs.all (fun o => o.ovs.all OV.plain) = true) {v : Value} (h : HoldV c w rs v) : HoldV c' w rs v := by
  rcases h with ⟨r, h1, h2⟩ | ⟨h1, vs, h2, h3⟩
  · subst h1
    exact .inl ⟨r, rfl, HoldR.pass hp _ ho _ _ h2⟩
  · exact .inr ⟨h1, vs, h2, HoldR.pass hp _ ho _ _ h3⟩

theorem LendX.pass {c c' : Cz} {w : World} {i : Nat} {lc : Nat → Loc} {os : List OV} {us : List Value} {As : List (Option Arr)} (hp : ∀ b j, c.own b = some (.pend i j) → c'.own b = some (.pend i j)) (ho : (∀ b, c.ok b → c'.ok b) ∨ XV.plain (.lend As) = true) (h : LendX c w i lc os us As) : LendX c' w i lc os us As := by
  intro j A hA
  obtain ⟨B, u, h1, h2, h3, h4, h5⟩ := h j A hA
  refine ⟨B, u, h1, h2, h3, h4, h5.pass (fun b => hp b j) (ho.imp id fun h => ?_)⟩
  have hm : some B ∈ As := by rw [nth_eq] at h1; exact List.mem_of_getElem? h1
  have := List.all_eq_true.1 h _ hm
  simpa using this

theorem HoldX.pass {c c' : Cz} {w : World} {lc : Nat → Nat → Loc} : (as : List AV) → (i : Nat) → (hb : ∀ b k, i ≤ k → c.own b = some (.pbox k) → c'.own b = some (.pbox k)) → (hp : ∀ b k j, i ≤ k → c.own b = some (.pend k j) → c'.own b = some (.pend k j)) → (vs : List Value) → (xs : List XV) → ((∀ b, c.ok b → c'.ok b) ∨ xs.all XV.plain = true) → HoldX c w lc i as vs xs → HoldX c' w lc i as vs xs
  | [], _, _, _, _, _, _, h => h
  | _ :: _, _, _, _, [], _, _, h => h.elim
  | .val _ _ :: as, i, hb, hp, _ :: vs, xs, ho, h => HoldX.pass as (i + 1) (fun b k hk => hb b k (by omega)) (fun b k j hk => hp b k j (by omega)) vs xs ho h
  | .io A :: as, i, hb, hp, v :: vs, xs, ho, h => by
    obtain ⟨B, l, h1, h2, h3, h4, h5⟩ := h
    subst h1
    refine ⟨B, l, rfl, h2, h3, h4.pass (fun b => hp b i 0 (Nat.le_refl _)) (ho.imp id fun h => by simp [XV.plain] at h; exact h.1), HoldX.pass as (i + 1) (fun b k hk => hb b k (by omega)) (fun b k j hk => hp b k j (by omega)) vs l (ho.imp id fun h => by simp at h; simpa using h.2) h5⟩
  | .lend _ :: as, i, hb, hp, v :: vs, xs, ho, h => by
    obtain ⟨As, l, h1, ⟨us, h2, h3⟩, h4⟩ := h
    subst h1
    refine ⟨As, l, rfl, ⟨us, h2, h3.pass (fun b j => hp b i j (Nat.le_refl _)) (ho.imp id fun h => by rw [List.all_cons, Bool.and_eq_true] at h; exact h.1)⟩, HoldX.pass as (i + 1) (fun b k hk => hb b k (by omega)) (fun b k j hk => hp b k j (by omega)) vs l (ho.imp id fun h => by rw [List.all_cons, Bool.and_eq_true] at h; exact h.2) h4⟩
  | .box _ :: as, i, hb, hp, v :: vs, xs, ho, h => by
    obtain ⟨os, l, h1, h2, h3⟩ := h
    subst h1
    refine ⟨os, l, rfl, h2.pass (fun b => hb b i (Nat.le_refl _)) (fun b j => hp b i j (Nat.le_refl _)) (ho.imp id fun h => by simp [XV.plain] at h; simpa using h.1), HoldX.pass as (i + 1) (fun b k hk => hb b k (by omega)) (fun b k j hk => hp b k j (by omega)) vs l (ho.imp id fun h => by simp at h; simpa using h.2) h3⟩

end Go.TM

/- The tree machine, part 22: what is handed over is told by itself. -/
namespace Go.TM
open Go Go.RowKit

/-- The labels, turned. -/
def Cz.map (c : Cz) (ρ : Lb → Option Lb) : Cz := { bx := c.bx, lc := c.lc, own := fun b => (c.own b).bind ρ }

theorem Cz.map_ok {c : Cz} {ρ : Lb → Option Lb} {b : Nat} (h : c.ok b) : (c.map ρ).ok b := by
  unfold Cz.ok Cz.map at *; simp [h]

theorem Cz.map_some {c : Cz} {ρ : Lb → Option Lb} {b : Nat} {l : Lb} (h : (c.map ρ).own b = some l) : ∃ k, c.own b = some k ∧ ρ k = some l := by
  unfold Cz.map at h
  exact Option.bind_eq_some_iff.1 h

theorem Cz.map_own {c : Cz} {ρ : Lb → Option Lb} {b : Nat} {l : Lb} (h : c.own b = some l) : (c.map ρ).own b = ρ l := by
  unfold Cz.map; simp [h]

/-- A part of an array of one's own, handed on. -/
theorem own_part {c : Cz} {w : World} {s j : Nat} {A : Arr} (h : ArrOk c w s j A) (ho : A.own = true) {vw : View} {u : Value} (h1 : u.oneCell' = true) (hu : SlAt (c.lc s j) A.r.width vw.lo (vw.app A.xs).length u)
    {ρ : Lb → Option Lb} {l : Lb} (hρ : ρ (.sp s j) = some l) : ∃ lc, OwnAt (c.map ρ) w l lc { A with xs := vw.app A.xs } u := by
  cases hl : c.lc s j with
  | nil =>
    unfold SlAt at hu; rw [hl] at hu
    exact ⟨.nil, h1, hu, ho, List.length_eq_zero_iff.1 hu.2⟩
  | «at» b off cap =>
    unfold SlAt at hu; rw [hl] at hu
    obtain ⟨a, k, rfl, hk, hcap, ha⟩ := hu
    unfold ArrOk at h; rw [hl] at h
    obtain ⟨h0, _, ⟨cur, ty, h3, h4⟩, h5⟩ := h
    rw [ho] at h0
    refine ⟨.at b (off + vw.lo * A.r.width) k, h1, ⟨a, k, rfl, hk, by omega, by simpa using ha⟩, ho, (Cz.map_own h0).trans hρ, hk, ⟨cur, ty, h3, ?_⟩, fun i x hi => ?_⟩
    · have : (vw.lo + k) * A.r.width ≤ cap * A.r.width := Nat.mul_le_mul_right _ hcap
      rw [Nat.add_mul] at this
      show off + vw.lo * A.r.width + k * A.r.width ≤ cur.size
      omega
    · have := h5 _ x (View.app_get vw A.xs hi)
      have e : off + vw.lo * A.r.width + i * A.r.width = off + (vw.lo + i) * A.r.width := by rw [Nat.add_mul]; omega
      show RepR w _ A.r b (off + vw.lo * A.r.width + i * A.r.width) x
      rw [e]
      exact RepR.stays ⟨Nat.le_refl _, fun _ _ _ => rfl, fun b _ hb => Cz.map_ok hb⟩ _ _ _ x rfl this

theorem RelL.cons' {c : Cz} {st : St} {w : World} {x : CV} {cs : List CV} {vs : List Value} (h : RelL c st w (x :: cs) vs) : ∃ v l, vs = v :: l ∧ RelC c st w x v ∧ RelL c st w cs l := by
  obtain ⟨h1, h2⟩ := h
  cases vs with
  | nil => simp at h1
  | cons v l => exact ⟨v, l, rfl, h2 0 x v rfl rfl, by simpa using h1, fun i y u hy hu => h2 (i + 1) y u (by simpa using hy) (by simpa using hu)⟩

theorem nth_append {α : Type} (l m : List α) (n : Nat) : nth (l ++ m) n = if n < l.length then nth l n else nth m (n - l.length) := by
  simp only [nth_eq]
  by_cases h : n < l.length
  · rw [if_pos h, List.getElem?_append_left h]
  · rw [if_neg h, List.getElem?_append_right (by omega)]

theorem rel_arr {w0 : World} {mu : Mu} {c : Cz} {st : St} {a : Act} {w : World} (h : Rel w0 mu c st a w) {s j g : Nat} {A : Arr} (hA : arr? st s j g = some A) : ArrOk c w s j A := by
  obtain ⟨sl, h1, _, h3⟩ := arr?_some hA
  exact h.arrs s j sl A h1 h3

theorem expC_ok {w0 : World} {mu : Mu} {c : Cz} {st : St} {a : Act} {w : World} (h : Rel w0 mu c st a w) {own : Bool} {ρ : Lb → Option Lb} {f : Nat → Lb} {j : Nat} {x : CV} {v : Value} (hx : RelC c st w x v) {o : OV} {u : Option Lb} {r : List (Nat × Nat)}
    (hc : expC st own x = some (o, u, r)) (hu : ∀ l, u = some l → ρ l = some (f j)) (hr : ∀ p ∈ r, ρ (.sp p.1 p.2) = none) {os : List OV} {l : List Value} (hh : HoldL (c.map ρ) w f (j + 1) os l) : HoldL (c.map ρ) w f j (o :: os) (v :: l) := by
  cases x with
  | int k n =>
    simp only [expC, Option.some.injEq, Prod.mk.injEq] at hc
    obtain ⟨rfl, rfl, _⟩ := hc
    have e : v = .int k n := hx
    exact ⟨l, by rw [e], hh⟩
  | bool n =>
    simp only [expC, Option.some.injEq, Prod.mk.injEq] at hc
    obtain ⟨rfl, rfl, _⟩ := hc
    have e : v = .bool n := hx
    exact ⟨l, by rw [e], hh⟩
  | str n =>
    simp only [expC, Option.some.injEq, Prod.mk.injEq] at hc
    obtain ⟨rfl, rfl, _⟩ := hc
    have e : v = .string n := hx
    exact ⟨l, by rw [e], hh⟩
  | nils =>
    simp only [expC, Option.some.injEq, Prod.mk.injEq] at hc
    obtain ⟨rfl, rfl, _⟩ := hc
    have e : v = .slice none 0 0 := hx
    exact ⟨l, by rw [e], hh⟩
  | shr q xs =>
    simp only [expC, Option.some.injEq, Prod.mk.injEq] at hc
    obtain ⟨rfl, rfl, _⟩ := hc
    have e : RepTy w c.ok (.sl q) v xs := hx
    exact ⟨v, l, rfl, RepTy.stays ⟨Nat.le_refl _, fun _ _ _ => rfl, fun b _ hb => Cz.map_ok hb⟩ _ _ _ e, hh⟩
  | nn q xs =>
    simp only [expC, Option.some.injEq, Prod.mk.injEq] at hc
    obtain ⟨rfl, rfl, _⟩ := hc
    have e : RepTy w c.ok (.sl q) v xs := hx.1
    exact ⟨v, l, rfl, RepTy.stays ⟨Nat.le_refl _, fun _ _ _ => rfl, fun b _ hb => Cz.map_ok hb⟩ _ _ _ e, hh⟩
  | ref s k g vw =>
    unfold expC at hc
    simp only at hc
    cases hA : arr? st s k g with
    | none => simp [hA] at hc
    | some A =>
      simp only [hA] at hc
      have ha := rel_arr h hA
      have hs := hx.2.2 A hA
      cases hb : (own && A.own) with
      | true =>
        simp only [hb, cond_true, Option.some.injEq, Prod.mk.injEq] at hc
        obtain ⟨rfl, rfl, rfl⟩ := hc
        rw [Bool.and_eq_true] at hb
        obtain ⟨lc, g1⟩ := own_part ha hb.2 hx.1 hs (hu _ rfl)
        exact ⟨v, l, rfl, ⟨lc, g1⟩, hh⟩
      | false =>
        simp only [hb, cond_false, Option.some.injEq, Prod.mk.injEq] at hc
        obtain ⟨rfl, rfl, rfl⟩ := hc
        refine ⟨v, l, rfl, ?_, hh⟩
        refine slAt_rep ha hs (fun b hb => Cz.map_ok hb) (fun b off cap hlc => ?_)
        unfold ArrOk at ha
        rw [hlc] at ha
        obtain ⟨h0, _⟩ := ha
        cases ho : A.own with
        | true =>
          rw [ho] at h0
          have : ρ (.sp s k) = none := hr (s, k) (by simp)
          exact (Cz.map_own h0).trans this
        | false =>
          rw [ho] at h0
          exact Cz.map_ok h0
  | bad => simp [expC] at hc
  | nilp => simp [expC] at hc
  | ptr _ _ _ => simp [expC] at hc
  | ept _ _ _ _ _ => simp [expC] at hc
  | rpt _ _ _ => simp [expC] at hc

theorem expL_ok {w0 : World} {mu : Mu} {c : Cz} {st : St} {a : Act} {w : World} (h : Rel w0 mu c st a w) {own : Bool} {ρ : Lb → Option Lb} {f : Nat → Lb} : (cs : List CV) → (vs : List Value) → (j : Nat) → RelL c st w cs vs → {os : List OV} → {u : List (Option Lb)} → {r : List (Nat × Nat)} →
    expL st own cs = some (os, u, r) → (∀ k l, nth u k = some (some l) → ρ l = some (f (j + k))) → (∀ p ∈ r, ρ (.sp p.1 p.2) = none) → HoldL (c.map ρ) w f j os vs
  | [], vs, j, hl, os, u, r, he, _, _ => by
    simp only [expL, Option.some.injEq, Prod.mk.injEq] at he
    obtain ⟨rfl, rfl, rfl⟩ := he
    have := hl.1
    simp at this
    exact List.length_eq_zero_iff.1 this.symm
  | x :: cs, vs, j, hl, os, u, r, he, hu, hr => by
    obtain ⟨v, l, rfl, hx, hl'⟩ := hl.cons'
    unfold expL at he
    cases hc : expC st own x with
    | none => simp [hc] at he
    | some p =>
      obtain ⟨o, u1, r1⟩ := p
      cases hq : expL st own cs with
      | none => simp [hc, hq] at he
      | some q =>
        obtain ⟨os', us, rs⟩ := q
        simp only [hc, hq, Option.some.injEq, Prod.mk.injEq] at he
        obtain ⟨rfl, rfl, rfl⟩ := he
        refine expC_ok h hx hc (fun l hl => hu 0 l (by rw [hl]; rfl)) (fun p hp => hr p (List.mem_append_left _ hp)) ?_
        refine expL_ok h cs l (j + 1) hl' hq (fun k' l' hk => ?_) (fun p hp => hr p (List.mem_append_right _ hp))
        have := hu (k' + 1) l' hk
        rwa [show j + (k' + 1) = j + 1 + k' by omega] at this

end Go.TM

/- The tree machine, part 23: a call's arguments, handed over. -/
namespace Go.TM
open Go Go.RowKit

/-- A slot's or an array's label. -/
def Lb.real : Lb → Bool
  | .box _ => true
  | .sp _ _ => true
  | _ => false

theorem Lb.same_iff {x y : Lb} (hx : x.real = true) : Lb.same x y = true ↔ x = y := by
  cases x <;> cases y <;> simp [Lb.same, Lb.real] at hx ⊢

theorem noTwice_nodup : (l : List Lb) → (∀ x ∈ l, x.real = true) → noTwice l = true → l.Nodup
  | [], _, _ => List.nodup_nil
  | x :: l, hr, h => by
    simp only [noTwice, Bool.and_eq_true, List.all_eq_true] at h
    refine List.nodup_cons.2 ⟨fun hm => ?_, noTwice_nodup l (fun y hy => hr y (List.mem_cons_of_mem _ hy)) h.2⟩
    have := h.1 x hm
    rw [(Lb.same_iff (hr x List.mem_cons_self)).2 rfl] at this
    cases this

/-- The labels' new names. -/
noncomputable def look : List (Lb × Lb) → Lb → Option Lb
  | [], _ => none
  | (x, y) :: t, l => have := Classical.propDecidable (x = l); if x = l then some y else look t l

theorem look_mem : (t : List (Lb × Lb)) → (t.map (·.1)).Nodup → {p : Lb × Lb} → p ∈ t → look t p.1 = some p.2
  | [], _, _, h => by simp at h
  | (x, y) :: t, hn, p, h => by
    unfold look
    simp only [List.map_cons, List.nodup_cons] at hn
    by_cases e : x = p.1
    · rw [if_pos e]
      rcases List.mem_cons.1 h with rfl | h
      · rfl
      · exact absurd (List.mem_map.2 ⟨p, h, e.symm⟩) hn.1
    · rw [if_neg e]
      rcases List.mem_cons.1 h with rfl | h
      · exact absurd rfl e
      · exact look_mem t hn.2 h

theorem look_some : (t : List (Lb × Lb)) → {l y : Lb} → look t l = some y → (l, y) ∈ t
  | [], _, _, h => by simp [look] at h
  | (x, z) :: t, l, y, h => by
    unfold look at h
    by_cases e : x = l
    · rw [if_pos e] at h
      cases h
      subst e
      exact List.mem_cons_self
    · rw [if_neg e] at h
      exact List.mem_cons_of_mem _ (look_some t h)

/-- A list of labels, numbered. -/
def numb (f : Nat → Lb) : (j : Nat) → List (Option Lb) → List (Lb × Lb)
  | _, [] => []
  | j, some l :: ls => (l, f j) :: numb f (j + 1) ls
  | j, none :: ls => numb f (j + 1) ls

theorem numb_fst (f : Nat → Lb) : (j : Nat) → (ls : List (Option Lb)) → (numb f j ls).map (·.1) = somes ls
  | _, [] => rfl
  | j, some l :: ls => by simp [numb, somes, numb_fst f (j + 1) ls]
  | j, none :: ls => by simp [numb, somes, numb_fst f (j + 1) ls]

theorem numb_snd (f : Nat → Lb) : (j : Nat) → (ls : List (Option Lb)) → ∀ p ∈ numb f j ls, ∃ k, p.2 = f k
  | _, [], p, h => by simp [numb] at h
  | j, some l :: ls, p, h => by
    simp only [numb, List.mem_cons] at h
    rcases h with rfl | h
    · exact ⟨j, rfl⟩
    · exact numb_snd f (j + 1) ls p h
  | j, none :: ls, p, h => numb_snd f (j + 1) ls p h

theorem numb_get (f : Nat → Lb) : (j : Nat) → (ls : List (Option Lb)) → ∀ k l, nth ls k = some (some l) → (l, f (j + k)) ∈ numb f j ls
  | _, [], k, l, h => by simp at h
  | j, x :: ls, 0, l, h => by
    simp only [nth, Option.some.injEq] at h
    subst h
    exact List.mem_cons_self
  | j, x :: ls, k + 1, l, h => by
    have := numb_get f (j + 1) ls k l h
    rw [show j + (k + 1) = j + 1 + k by omega]
    cases x with
    | none => exact this
    | some x => exact List.mem_cons_of_mem _ this

theorem mem_somes {l : Lb} : {ls : List (Option Lb)} → l ∈ somes ls ↔ some l ∈ ls
  | [] => by simp [somes]
  | none :: ls => by simp [somes, mem_somes (ls := ls)]
  | some x :: ls => by simp [somes, mem_somes (ls := ls)]

def locC (c : Cz) : Option CV → Loc
  | some (.ref a j _ _) => c.lc a j
  | _ => .nil
def locOf (c : Cz) : V → Nat → Loc
  | .one (.ref a j _ _) => fun _ => c.lc a j
  | .agg cs => fun k => locC c cs[k]?
  | _ => fun _ => .nil

/-- One of the cells that are handed. -/
theorem expL_at {st : St} {own : Bool} : (cs : List CV) → {os : List OV} → {u : List (Option Lb)} → {r : List (Nat × Nat)} → expL st own cs = some (os, u, r) → ∀ (k : Nat) (o : OV), os[k]? = some o → ∃ x u' r', cs[k]? = some x ∧ expC st own x = some (o, u', r') ∧ nth u k = some u'
  | [], _, _, _, h => by
    simp only [expL, Option.some.injEq, Prod.mk.injEq] at h
    obtain ⟨rfl, rfl, _⟩ := h
    intro k o hk; simp at hk
  | x :: cs, os, u, r, h => by
    unfold expL at h
    cases hc : expC st own x with
    | none => simp [hc] at h
    | some p =>
      obtain ⟨o, u1, r1⟩ := p
      cases hq : expL st own cs with
      | none => simp [hc, hq] at h
      | some q =>
        obtain ⟨os', us, rs⟩ := q
        simp only [hc, hq, Option.some.injEq, Prod.mk.injEq] at h
        obtain ⟨rfl, rfl, _⟩ := h
        intro k o' hk
        cases k with
        | zero =>
          simp only [List.getElem?_cons_zero, Option.some.injEq] at hk
          subst hk
          exact ⟨x, u1, r1, rfl, hc, rfl⟩
        | succ k =>
          obtain ⟨y, u', r', h1, h2, h3⟩ := expL_at cs hq k o' (by simpa using hk)
          exact ⟨y, u', r', by simpa using h1, h2, h3⟩

/-- What is handed as an array of its own, and as nil. -/
theorem expC_own {st : St} {own : Bool} {x : CV} {A : Arr} {u : Option Lb} {r : List (Nat × Nat)} (h : expC st own x = some (.own A, u, r)) : ∃ a j g w B, x = .ref a j g w ∧ arr? st a j g = some B ∧ A = { B with xs := w.app B.xs } ∧ u = some (.sp a j) ∧ B.own = true := by
  cases x with
  | ref a j g w =>
    unfold expC at h
    simp only at h
    cases hA : arr? st a j g with
    | none => simp [hA] at h
    | some B =>
      simp only [hA] at h
      cases hb : (own && B.own) with
      | false => simp [hb] at h
      | true =>
        simp only [hb, cond_true, Option.some.injEq, Prod.mk.injEq] at h
        obtain ⟨h1, rfl, _⟩ := h
        injection h1 with h1
        rw [Bool.and_eq_true] at hb
        exact ⟨a, j, g, w, B, rfl, hA, h1.symm, rfl, hb.2⟩
  | _ => simp [expC] at h
theorem expC_nils {st : St} {own : Bool} {x : CV} {u : Option Lb} {r : List (Nat × Nat)} (h : expC st own x = some (.nils, u, r)) : x = .nils := by
  cases x with
  | ref a j g w =>
    unfold expC at h
    simp only at h
    cases hA : arr? st a j g with
    | none => simp [hA] at h
    | some B =>
      simp only [hA] at h
      cases hb : (own && B.own) <;> simp [hb] at h
  | nils => rfl
  | _ => simp [expC] at h

theorem expC_real {st : St} {own : Bool} {x : CV} {o : OV} {u : Option Lb} {r : List (Nat × Nat)} (h : expC st own x = some (o, u, r)) : ∀ l, u = some l → ∃ s j, l = .sp s j := by
  cases x with
  | ref a j g w =>
    unfold expC at h
    simp only at h
    cases hA : arr? st a j g with
    | none => simp [hA] at h
    | some A =>
      simp only [hA] at h
      cases hb : (own && A.own) <;> simp only [hb, cond_true, cond_false, Option.some.injEq, Prod.mk.injEq] at h <;> obtain ⟨_, rfl, _⟩ := h <;> simp
  | _ => simp [expC] at h <;> (try (obtain ⟨_, rfl, _⟩ := h; simp))

theorem expL_sp {st : St} {own : Bool} : (cs : List CV) → {os : List OV} → {u : List (Option Lb)} → {r : List (Nat × Nat)} → expL st own cs = some (os, u, r) → ∀ l ∈ somes u, ∃ s j, l = .sp s j
  | [], _, _, _, h => by
    simp only [expL, Option.some.injEq, Prod.mk.injEq] at h
    obtain ⟨_, rfl, _⟩ := h
    simp [somes]
  | x :: cs, os, u, r, h => by
    unfold expL at h
    cases hc : expC st own x with
    | none => simp [hc] at h
    | some p =>
      obtain ⟨o, u1, r1⟩ := p
      cases hq : expL st own cs with
      | none => simp [hc, hq] at h
      | some q =>
        obtain ⟨os', us, rs⟩ := q
        simp only [hc, hq, Option.some.injEq, Prod.mk.injEq] at h
        obtain ⟨_, rfl, _⟩ := h
        intro l hl
        rw [mem_somes] at hl
        rcases List.mem_cons.1 hl with hl | hl
        · exact expC_real hc l hl.symm
        · exact expL_sp cs hq l (mem_somes.2 hl)

theorem expL_real {st : St} {own : Bool} (cs : List CV) {os : List OV} {u : List (Option Lb)} {r : List (Nat × Nat)} (h : expL st own cs = some (os, u, r)) : ∀ l ∈ somes u, l.real = true := by
  intro l hl
  obtain ⟨s, j, rfl⟩ := expL_sp cs h l hl
  rfl

/-- The table of an argument's labels. -/
def tabArg (i : Nat) (av : AV) (bx : List Lb) (u : List (Option Lb)) : List (Lb × Lb) :=
  bx.map (fun l => (l, .pbox i)) ++ numb (.pend i) 0 u

theorem tabArg_fst (i : Nat) (av : AV) (bx : List Lb) (u : List (Option Lb)) : (tabArg i av bx u).map (·.1) = bx ++ somes u := by
  unfold tabArg
  rw [List.map_append, numb_fst, List.map_map]
  congr 1
  exact List.map_id bx

theorem tabArg_snd (i : Nat) (av : AV) (bx : List Lb) (u : List (Option Lb)) : ∀ p ∈ tabArg i av bx u, p.2.handed = true := by
  intro p hp
  unfold tabArg at hp
  rcases List.mem_append.1 hp with hp | hp
  · obtain ⟨l, _, rfl⟩ := List.mem_map.1 hp
    rfl
  · obtain ⟨k, e⟩ := numb_snd _ _ _ p hp
    rw [e]; rfl

theorem expArg_ok {w0 : World} {mu : Mu} {c : Cz} {st : St} {a : Act} {w : World} (h : Rel w0 mu c st a w) {m : Pm} {v : V} {x : Value} (hx : RelV c st w v x) {av : AV} {u q : List Lb} {r : List (Nat × Nat)} (he : expArg st m v = some (av, u, q, r)) (i : Nat) :
    (∀ l ∈ u, l.real = true) ∧ (∀ l ∈ q, l ∈ u) ∧ ∃ tb : List (Lb × Lb), tb.map (·.1) = u ∧ (∀ p ∈ tb, p.2.handed = true) ∧ ∀ ρ : Lb → Option Lb, (∀ p ∈ tb, ρ p.1 = some p.2) → (∀ p ∈ r, ρ (.sp p.1 p.2) = none) → HoldA (c.map ρ) w i (locOf c v) av x := by
  have vals : ∀ (own : Bool) (cs : List CV) (os : List OV) (us : List (Option Lb)) (rs : List (Nat × Nat)) (vs : List Value), RelL c st w cs vs → expL st own cs = some (os, us, rs) → (∀ l ∈ somes us, l.real = true) ∧
      ∀ ρ : Lb → Option Lb, (∀ p ∈ numb (.pend i) 0 us, ρ p.1 = some p.2) → (∀ p ∈ rs, ρ (.sp p.1 p.2) = none) → HoldL (c.map ρ) w (.pend i) 0 os vs := by
    intro own cs os us rs vs hl hq
    refine ⟨expL_real cs hq, fun ρ hp hr => expL_ok h cs vs 0 hl hq (fun k l hk => ?_) hr⟩
    have := hp _ (numb_get (.pend i) 0 us k l hk)
    simpa using this
  have single : ∀ (own : Bool) (cx : CV) (os : List OV) (us : List (Option Lb)) (rs : List (Nat × Nat)), RelC c st w cx x → expL st own [cx] = some (os, us, rs) → (∀ l ∈ somes us, l.real = true) ∧ (∀ l ∈ somes us, l ∈ somes us) ∧
      ∃ tb : List (Lb × Lb), tb.map (·.1) = somes us ∧ (∀ p ∈ tb, p.2.handed = true) ∧ ∀ ρ : Lb → Option Lb, (∀ p ∈ tb, ρ p.1 = some p.2) → (∀ p ∈ rs, ρ (.sp p.1 p.2) = none) → HoldA (c.map ρ) w i (locOf c (.one cx)) (.val false os) x := by
    intro own cx os us rs hl hq
    obtain ⟨g1, g2⟩ := vals own [cx] os us rs [x] ⟨rfl, fun k y z hy hz => by
      cases k with
      | zero => simp at hy hz; subst hy hz; exact hl
      | succ k => simp at hy⟩ hq
    exact ⟨g1, fun _ h => h, tabArg i (.val false os) [] us, tabArg_fst _ _ _ _, tabArg_snd _ _ _ _, fun ρ hp hr => g2 ρ (fun p hp' => hp p (by simpa [tabArg] using hp')) hr⟩
  cases v with
  | tup _ => simp [expArg] at he
  | agg cs =>
    obtain ⟨vs, rfl, hl⟩ := hx
    have other : (match expL st m.isOwn cs with | some (os, u, r) => some (AV.val true os, somes u, somes u, r) | none => none) = some (av, u, q, r) → (∀ l ∈ u, l.real = true) ∧ (∀ l ∈ q, l ∈ u) ∧
        ∃ tb : List (Lb × Lb), tb.map (·.1) = u ∧ (∀ p ∈ tb, p.2.handed = true) ∧ ∀ ρ : Lb → Option Lb, (∀ p ∈ tb, ρ p.1 = some p.2) → (∀ p ∈ r, ρ (.sp p.1 p.2) = none) → HoldA (c.map ρ) w i (locOf c (.agg cs)) av (.agg vs) := by
      intro he
      cases hq : expL st m.isOwn cs with
      | none => simp [hq] at he
      | some p =>
        obtain ⟨os, us, rs⟩ := p
        simp only [hq, Option.some.injEq, Prod.mk.injEq] at he
        obtain ⟨rfl, rfl, rfl, rfl⟩ := he
        obtain ⟨g1, g2⟩ := vals _ _ _ _ _ _ hl hq
        exact ⟨g1, fun _ h => h, tabArg i (.val true os) [] us, tabArg_fst _ _ _ _, tabArg_snd _ _ _ _, fun ρ hp hr => ⟨vs, rfl, g2 ρ (fun p hp' => hp p (by simpa [tabArg] using hp')) hr⟩⟩
    unfold expArg at he
    cases m with
    | shr => exact other he
    | own => exact other he
    | io => exact other he
    | lend =>
      simp only at he
      cases hq : expL st true cs with
      | none => simp [hq] at he
      | some p =>
        obtain ⟨os, us, rs⟩ := p
        simp only [hq] at he
        obtain ⟨hall, he1⟩ := bif_some he
        simp only [Option.some.injEq, Prod.mk.injEq] at he1
        obtain ⟨rfl, rfl, rfl, rfl⟩ := he1
        obtain ⟨g1, g2⟩ := vals _ _ _ _ _ _ hl hq
        refine ⟨g1, by simp, tabArg i (.val true os) [] us, tabArg_fst _ _ _ _, tabArg_snd _ _ _ _, fun ρ hp hr => ⟨vs, rfl, g2 ρ (fun p hp' => hp p (by simpa [tabArg] using hp')) hr, fun j o x ho hxj => ?_⟩⟩
        obtain ⟨cx, u', r', k1, k2, k3⟩ := expL_at cs hq j o ho
        show LocAt (c.map ρ) w i (fun k => locC c cs[k]?) j o x
        cases o with
        | nils =>
          have := expC_nils k2
          subst this
          show locC c cs[j]? = .nil
          rw [k1]; rfl
        | own A =>
          obtain ⟨s, k, g, vw, B, rfl, hA, rfl, rfl, hB⟩ := expC_own k2
          have hmem : CV.ref s k g vw ∈ cs := List.mem_of_getElem? k1
          have hvw := List.all_eq_true.1 hall _ hmem
          have hfull : vw = .full := by
            unfold lendC at hvw
            rw [Bool.and_eq_true] at hvw
            cases vw with
            | full => rfl
            | «from» _ => cases hvw.1
            | sub _ _ => cases hvw.1
          subst hfull
          have hxr := hl.2 j _ _ k1 hxj
          have hs := hxr.2.2 B hA
          have ha := rel_arr h hA
          have hρ : ρ (.sp s k) = some (.pend i j) := hp (.sp s k, .pend i j) (by
            have := numb_get (.pend i) 0 us j (.sp s k) k3
            simpa [tabArg] using this)
          have eloc : (fun k => locC c cs[k]?) j = c.lc s k := by
            show locC c cs[j]? = _
            rw [k1]; rfl
          show OwnAt (c.map ρ) w (.pend i j) ((fun k => locC c cs[k]?) j) { B with xs := View.full.app B.xs } x
          rw [eloc]
          refine ⟨hxr.1, hs, hB, ?_⟩
          show match c.lc s k with
            | .nil => B.xs = []
            | .at b off cap => _
          unfold ArrOk at ha
          cases hlc : c.lc s k with
          | nil => rw [hlc] at ha; exact ha
          | «at» b off cap =>
            rw [hlc] at ha
            obtain ⟨h0, h2, h3, h4⟩ := ha
            rw [hB] at h0
            exact ⟨(Cz.map_own h0).trans hρ, h2, h3, fun i x hi => RepR.stays ⟨Nat.le_refl _, fun _ _ _ => rfl, fun b _ hb => Cz.map_ok hb⟩ _ _ _ x rfl (h4 i x hi)⟩
        | _ => trivial
  | one cx =>
    cases cx with
    | ptr b g off =>
      unfold expArg at he
      simp only at he
      cases hb : box? st b g with
      | none => simp [hb] at he
      | some cs =>
        simp only [hb] at he
        cases hq : expL st true cs with
        | none => simp [hq] at he
        | some p =>
          obtain ⟨os, us, rs⟩ := p
          simp only [hq] at he
          obtain ⟨ho, he1⟩ := bif_some he
          have ho1 := Nat.eq_of_beq_eq_true ho
          simp only [Option.some.injEq, Prod.mk.injEq] at he1
          obtain ⟨rfl, rfl, rfl, rfl⟩ := he1
          subst ho1
          obtain ⟨sl, k1, k2, k3⟩ := box?_some hb
          obtain ⟨h1, vs, ty, h2, h3⟩ := h.boxes b sl cs k1 k3
          obtain ⟨g1, g2⟩ := vals _ _ _ _ _ _ h3 hq
          refine ⟨fun l hl => ?_, fun l hl => List.mem_cons_of_mem _ hl, tabArg i (.box os) [.box b] us, by rw [tabArg_fst]; rfl, tabArg_snd _ _ _ _, fun ρ hp hr => ⟨c.bx b, vs, ty, hx.2.2 cs hb, ?_, h2, g2 ρ (fun p hp' => hp p (List.mem_append_right _ hp')) hr⟩⟩
          · rcases List.mem_cons.1 hl with rfl | hl
            · rfl
            · exact g1 l hl
          · exact (Cz.map_own h1).trans (hp (.box b, .pbox i) (by simp [tabArg]))
    | ref s j g vw =>
      unfold expArg at he
      have other : (match expL st m.isOwn [.ref s j g vw] with | some (os, u, r) => some (AV.val false os, somes u, somes u, r) | none => none) = some (av, u, q, r) → (∀ l ∈ u, l.real = true) ∧ (∀ l ∈ q, l ∈ u) ∧
          ∃ tb : List (Lb × Lb), tb.map (·.1) = u ∧ (∀ p ∈ tb, p.2.handed = true) ∧ ∀ ρ : Lb → Option Lb, (∀ p ∈ tb, ρ p.1 = some p.2) → (∀ p ∈ r, ρ (.sp p.1 p.2) = none) → HoldA (c.map ρ) w i (locOf c (.one (.ref s j g vw))) av x := by
        intro he
        cases hq : expL st m.isOwn [.ref s j g vw] with
        | none => simp [hq] at he
        | some p =>
          obtain ⟨os, us, rs⟩ := p
          simp only [hq, Option.some.injEq, Prod.mk.injEq] at he
          obtain ⟨rfl, rfl, rfl, rfl⟩ := he
          exact single _ _ _ _ _ hx hq
      cases m with
      | shr => exact other he
      | own => exact other he
      | lend => exact other he
      | io =>
        cases vw with
        | full =>
          cases hA : arr? st s j g with
          | none => simp [hA] at he
          | some A =>
            simp only [hA] at he
            obtain ⟨ho, he1⟩ := bif_some he
            simp only [Option.some.injEq, Prod.mk.injEq] at he1
            obtain ⟨rfl, rfl, rfl, rfl⟩ := he1
            refine ⟨by simp [Lb.real], by simp, [(.sp s j, .pend i 0)], rfl, by simp [Lb.handed], fun ρ hp _ => ?_⟩
            have ha := rel_arr h hA
            have hs := hx.2.2 A hA
            have hρ : ρ (.sp s j) = some (.pend i 0) := hp (.sp s j, .pend i 0) (by simp)
            refine ⟨hx.1, hs, ho, ?_⟩
            show match c.lc s j with
              | .nil => A.xs = []
              | .at b off cap => _
            unfold ArrOk at ha
            cases hlc : c.lc s j with
            | nil => rw [hlc] at ha; exact ha
            | «at» b off cap =>
              rw [hlc] at ha
              obtain ⟨h0, h2, h3, h4⟩ := ha
              rw [ho] at h0
              exact ⟨(Cz.map_own h0).trans hρ, h2, h3, fun i x hi => RepR.stays ⟨Nat.le_refl _, fun _ _ _ => rfl, fun b _ hb => Cz.map_ok hb⟩ _ _ _ x rfl (h4 i x hi)⟩
        | «from» _ => simp at he
        | sub _ _ => simp at he
    | _ =>
      unfold expArg at he
      simp only at he
      split at he
      · rename_i os us rs hq
        simp only [Option.some.injEq, Prod.mk.injEq] at he
        obtain ⟨rfl, rfl, rfl, rfl⟩ := he
        exact single _ _ _ _ _ hx hq
      · cases he

/-- The table of a call's labels. -/
theorem expAll_ok {w0 : World} {mu : Mu} {c : Cz} {st : St} {a : Act} {w : World} (h : Rel w0 mu c st a w) : (ms : List (Pm × V)) → (i : Nat) → (xs : List Value) → ms.length = xs.length → (∀ (k : Nat) (m : Pm × V) (x : Value), ms[k]? = some m → xs[k]? = some x → RelV c st w m.2 x) →
    {avs : List AV} → {u q : List Lb} → {r : List (Nat × Nat)} → expAll st ms = some (avs, u, q, r) →
    (∀ l ∈ u, l.real = true) ∧ (∀ l ∈ q, l ∈ u) ∧ ∃ tb : List (Lb × Lb), tb.map (·.1) = u ∧ (∀ p ∈ tb, p.2.handed = true) ∧ avs.length = ms.length ∧
      ∀ (ρ : Lb → Option Lb) (lc : Nat → Nat → Loc), (∀ (k : Nat) (m : Pm × V), ms[k]? = some m → lc (i + k) = locOf c m.2) → (∀ p ∈ tb, ρ p.1 = some p.2) → (∀ p ∈ r, ρ (.sp p.1 p.2) = none) → HoldAs (c.map ρ) w lc i avs xs
  | [], i, xs, hl, hx, avs, u, q, r, he => by
    simp only [expAll, Option.some.injEq, Prod.mk.injEq] at he
    obtain ⟨rfl, rfl, rfl, rfl⟩ := he
    simp at hl
    exact ⟨by simp, by simp, [], rfl, by simp, rfl, fun ρ lc _ _ _ => List.length_eq_zero_iff.1 hl.symm⟩
  | (m, v) :: ms, i, xs, hl, hx, avs, u, q, r, he => by
    cases xs with
    | nil => simp at hl
    | cons x xs =>
      unfold expAll at he
      cases h1 : expArg st m v with
      | none => simp [h1] at he
      | some p1 =>
        obtain ⟨av, u1, q1, r1⟩ := p1
        cases h2 : expAll st ms with
        | none => simp [h1, h2] at he
        | some p2 =>
          obtain ⟨avs', u2, q2, r2⟩ := p2
          simp only [h1, h2, Option.some.injEq, Prod.mk.injEq] at he
          obtain ⟨rfl, rfl, rfl, rfl⟩ := he
          obtain ⟨a1, a2, ta, a4, a5, a3⟩ := expArg_ok h (hx 0 (m, v) x rfl rfl) h1 i
          obtain ⟨b1, b2, tb, b3, b4, b6, b5⟩ := expAll_ok h ms (i + 1) xs (by simpa using hl) (fun k m x hm hx' => hx (k + 1) m x (by simpa using hm) (by simpa using hx')) h2
          refine ⟨fun l hl => ?_, fun l hl => ?_, ta ++ tb, by simp [a4, b3], fun p hp => ?_, by simp [b6], fun ρ lc hlc hp hr => ?_⟩
          · rcases List.mem_append.1 hl with hl | hl
            · exact a1 l hl
            · exact b1 l hl
          · rcases List.mem_append.1 hl with hl | hl
            · exact List.mem_append_left _ (a2 l hl)
            · exact List.mem_append_right _ (b2 l hl)
          · rcases List.mem_append.1 hp with hp | hp
            · exact a5 p hp
            · exact b4 p hp
          · refine ⟨x, xs, rfl, ?_, b5 ρ lc (fun k m hm => ?_) (fun p hp' => hp p (List.mem_append_right _ hp')) (fun p hp' => hr p (List.mem_append_right _ hp'))⟩
            · have := hlc 0 (m, v) rfl
              simp only [Nat.add_zero] at this
              rw [this]
              exact a3 ρ (fun p hp' => hp p (List.mem_append_left _ hp')) (fun p hp' => hr p (List.mem_append_left _ hp'))
            · have := hlc (k + 1) m (by simpa using hm)
              rwa [show i + (k + 1) = i + 1 + k by omega] at this

end Go.TM

/- The tree machine, part 24: a call's answer, taken up. -/
namespace Go.TM
open Go Go.RowKit

/-- What a state says, but of what is labelled so. -/
structure RelX (X : Lb → Prop) (w0 : World) (mu : Mu) (c : Cz) (st : St) (a : Act) (w : World) : Prop where
  regs : ∀ t, RelV c st w (getV st t) (a.eval (.tmp t))
  boxes : ∀ s sl cs, ¬ X (.box s) → nth st s = some sl → sl.box = some cs → BoxOk c st w s cs
  arrs : ∀ s j sl A, ¬ X (.sp s j) → nth st s = some sl → nth sl.arrs j = some (some A) → ArrOk c w s j A
  owned : ∀ b l, c.own b = some l → b < w.heap.size ∧ (l = .out ∨ w0.heap.size ≤ b ∨ mu.m b)
  free : ∀ b, b < w0.heap.size → c.own b = none → mu.m b ∨ mu.ok b
  kept : w.os = w0.os ∧ w.tape = w0.tape ∧ w.output = w0.output ∧ w0.heap.size ≤ w.heap.size
  old : ∀ k, k < w0.heap.size → ¬ mu.m k → w.heap[k]? = w0.heap[k]?
  plain : a.defers = []
  anch : ∀ p ∈ mu.an, AnOk c st p

theorem RelX.rel {w0 : World} {mu : Mu} {c : Cz} {st : St} {a : Act} {w : World} (h : RelX (fun _ => False) w0 mu c st a w) : Rel w0 mu c st a w :=
  ⟨h.regs, fun s sl cs => h.boxes s sl cs id, fun s j sl A => h.arrs s j sl A id, h.owned, h.free, h.kept, h.old, h.plain, h.anch⟩

/-- Labels turned: what is pending alone gets other names. -/
structure Turns (ρ : Lb → Lb) : Prop where
  other : ∀ l, (l = .out ∨ l.real = true) → ρ l = l

def Cz.turn (c : Cz) (ρ : Lb → Lb) (bx : Nat → Nat) (lc : Nat → Nat → Loc) : Cz := { bx := bx, lc := lc, own := fun b => (c.own b).map ρ }

theorem Cz.turn_ok {c : Cz} {ρ : Lb → Lb} {bx : Nat → Nat} {lc : Nat → Nat → Loc} {b : Nat} : (c.turn ρ bx lc).ok b ↔ c.ok b := by
  unfold Cz.ok Cz.turn; simp

theorem stays_turn (c : Cz) (w : World) (ρ : Lb → Lb) (bx : Nat → Nat) (lc : Nat → Nat → Loc) : Stays w w c.ok (c.turn ρ bx lc).ok := ⟨Nat.le_refl _, fun _ _ _ => rfl, fun _ _ h => Cz.turn_ok.2 h⟩

theorem RelX.turn {X X' : Lb → Prop} {w0 : World} {mu : Mu} {c : Cz} {st st' : St} {a : Act} {w : World} (h : RelX X w0 mu c st a w) {ρ : Lb → Lb} {bx : Nat → Nat} {lc : Nat → Nat → Loc} (hρ : Turns ρ)
    (hfw : Fw c st w (c.turn ρ bx lc) st' w) (hregs : ∀ t, RelV (c.turn ρ bx lc) st' w (getV st' t) (a.eval (.tmp t)))
    (hbox : ∀ s sl cs, ¬ X' (.box s) → nth st' s = some sl → sl.box = some cs → BoxOk (c.turn ρ bx lc) st' w s cs)
    (harr : ∀ s j sl A, ¬ X' (.sp s j) → nth st' s = some sl → nth sl.arrs j = some (some A) → ArrOk (c.turn ρ bx lc) w s j A) : RelX X' w0 mu (c.turn ρ bx lc) st' a w where
  regs := hregs
  boxes := hbox
  arrs := harr
  owned b l hb := by
    unfold Cz.turn at hb
    simp only [Option.map_eq_some_iff] at hb
    obtain ⟨k, hk, e⟩ := hb
    obtain ⟨h1, h2⟩ := h.owned b k hk
    refine ⟨h1, h2.imp (fun e2 => ?_) id⟩
    subst e2
    rw [← e]
    exact hρ.other _ (.inl rfl)
  free b hb h1 := h.free b hb (by unfold Cz.turn at h1; simpa using h1)
  kept := h.kept
  old := h.old
  plain := h.plain
  anch p hp := hfw.anch (h.anch p hp)

theorem nth_setArr (st : St) (s j : Nat) (A : Option Arr) (k : Nat) : ∃ f : Sl → Sl, (∀ x, (f x).v = x.v ∧ (f x).box = x.box ∧ (f x).bg = x.bg ∧ (f x).ag = x.ag ∧
      ∀ i, nth (f x).arrs i = if k = s ∧ i = j then (nth x.arrs i).map (fun _ => A) else nth x.arrs i) ∧ nth (setArr st s j A) k = (nth st k).map f := by
  unfold setArr
  by_cases e : k = s
  · subst e
    refine ⟨fun s => { s with arrs := upd (fun _ => A) s.arrs j }, fun x => ⟨rfl, rfl, rfl, rfl, fun i => ?_⟩, nth_upd_same _ _ _⟩
    simp only [nth_upd, true_and]
  · refine ⟨id, fun x => ⟨rfl, rfl, rfl, rfl, fun i => ?_⟩, by rw [nth_upd_ne _ _ e]; simp⟩
    simp [e]

theorem getV_setArr (st : St) (s j : Nat) (A : Option Arr) (t : Nat) : getV (setArr st s j A) t = getV st t := by
  obtain ⟨f, hf, hk⟩ := nth_setArr st s j A t
  unfold getV
  rw [hk]
  cases nth st t with
  | none => rfl
  | some x => exact (hf x).1

theorem gen_setArr (st : St) (s j : Nat) (A : Option Arr) (t : Nat) : genA (setArr st s j A) t = genA st t ∧ genB (setArr st s j A) t = genB st t := by
  obtain ⟨f, hf, hk⟩ := nth_setArr st s j A t
  unfold genA genB
  rw [hk]
  cases nth st t with
  | none => exact ⟨rfl, rfl⟩
  | some x => exact ⟨(hf x).2.2.2.1, (hf x).2.2.1⟩

theorem box?_setArr (st : St) (s j : Nat) (A : Option Arr) (b g : Nat) : box? (setArr st s j A) b g = box? st b g := by
  obtain ⟨f, hf, hk⟩ := nth_setArr st s j A b
  unfold box?
  rw [hk]
  cases nth st b with
  | none => rfl
  | some x => simp [(hf x).2.1, (hf x).2.2.1]

theorem arr?_eq {st : St} {a j g : Nat} {sl : Sl} {A : Arr} (h1 : nth st a = some sl) (h2 : sl.ag = g) (h3 : nth sl.arrs j = some (some A)) : arr? st a j g = some A := by
  unfold arr?
  rw [h1]
  simp [h2, h3]

/-- An array written elsewhere, or gone. -/
theorem fw_setArr {c : Cz} {st : St} {w : World} {s j g : Nat} {A : Option Arr} {A0 : Arr} (h0 : arr? st s j g = some A0 ∨ A = none) (hA : ∀ B, A = some B → B.r.width = A0.r.width ∧ B.xs.length = A0.xs.length) (ρ : Lb → Lb) :
    Fw c st w (c.turn ρ c.bx c.lc) (setArr st s j A) w where
  stays := stays_turn c w ρ _ _
  refs a' j' g' A' hg hA' := by
    obtain ⟨sl, k1, k2, k3⟩ := arr?_some hA'
    obtain ⟨f, hf, hk⟩ := nth_setArr st s j A a'
    rw [hk] at k1
    cases hx : nth st a' with
    | none => rw [hx] at k1; simp at k1
    | some x =>
      rw [hx] at k1; simp at k1; subst k1
      rw [(hf x).2.2.2.1] at k2
      rw [(hf x).2.2.2.2 j'] at k3
      by_cases e : a' = s ∧ j' = j
      · rw [if_pos e] at k3
        obtain ⟨rfl, rfl⟩ := e
        cases hq : nth x.arrs j' with
        | none => simp [hq] at k3
        | some A1 =>
          simp only [hq, Option.map_some, Option.some.injEq] at k3
          rcases h0 with h0 | h0
          · obtain ⟨sl, k1', k2', k3'⟩ := arr?_some h0
            rw [hx] at k1'; cases k1'
            obtain ⟨e1, e2⟩ := hA A' k3
            exact ⟨A0, arr?_eq hx k2 k3', e1, e2, rfl⟩
          · rw [h0] at k3; cases k3
      · rw [if_neg e] at k3
        exact ⟨A', arr?_eq hx k2 k3, rfl, rfl, rfl⟩
  bxs b g' cs _ h := ⟨⟨cs, by rwa [box?_setArr] at h⟩, rfl⟩
  gA a' := by rw [(gen_setArr st s j A a').1]; exact Nat.le_refl _
  gB a' := by rw [(gen_setArr st s j A a').2]; exact Nat.le_refl _

theorem BoxOk.turn {c : Cz} {st st' : St} {w : World} {ρ : Lb → Lb} {bx : Nat → Nat} {lc : Nat → Nat → Loc} (hρ : Turns ρ) (hfw : Fw c st w (c.turn ρ bx lc) st' w) {s : Nat} {cs : List CV} (h : BoxOk c st w s cs) (hb : bx s = c.bx s) : BoxOk (c.turn ρ bx lc) st' w s cs := by
  refine h.go hfw hb ?_ rfl
  unfold Cz.turn
  simp only
  rw [h.1]
  simp [hρ.other (.box s) (.inr rfl)]

theorem ArrOk.turn {c : Cz} {w : World} {ρ : Lb → Lb} {bx : Nat → Nat} {lc : Nat → Nat → Loc} (hρ : Turns ρ) {s j : Nat} {A : Arr} (h : ArrOk c w s j A) (hl : lc s j = c.lc s j) : ArrOk (c.turn ρ bx lc) w s j A := by
  refine h.go (stays_turn c w ρ bx lc) hl (fun b off cap hlc => ⟨rfl, ?_⟩)
  unfold ArrOk at h
  rw [hlc] at h
  obtain ⟨h0, _⟩ := h
  unfold Cz.turn
  simp only
  cases ho : A.own with
  | true => rw [ho] at h0; rw [h0]; simp [hρ.other (.sp s j) (.inr rfl)]
  | false => rw [ho] at h0; rw [h0]; rfl

theorem turns_id : Turns id := ⟨fun _ _ => rfl⟩

/-- An array that is used up. -/
theorem RelX.kill {X : Lb → Prop} {w0 : World} {mu : Mu} {c : Cz} {st : St} {a : Act} {w : World} (h : RelX X w0 mu c st a w) (s j : Nat) : RelX (fun l => X l ∧ l ≠ .sp s j) w0 mu (c.turn id c.bx c.lc) (setArr st s j none) a w ∧ Fw c st w (c.turn id c.bx c.lc) (setArr st s j none) w := by
  have hfw : Fw c st w (c.turn id c.bx c.lc) (setArr st s j none) w := fw_setArr (g := 0) (A0 := ⟨.nil, false, []⟩) (.inr rfl) (fun _ e => by cases e) id
  refine ⟨h.turn turns_id hfw (fun t => by rw [getV_setArr]; exact hfw.relV (h.regs t)) (fun k sl cs hX hs hb => ?_) (fun k i sl A hX hs hA => ?_), hfw⟩
  · obtain ⟨f, hf, hk⟩ := nth_setArr st s j none k
    rw [hk] at hs
    cases hx : nth st k with
    | none => rw [hx] at hs; simp at hs
    | some x =>
      rw [hx] at hs; simp at hs; subst hs
      rw [(hf x).2.1] at hb
      exact (h.boxes k x cs (fun hX' => hX ⟨hX', by simp⟩) hx hb).turn turns_id hfw rfl
  · obtain ⟨f, hf, hk⟩ := nth_setArr st s j none k
    rw [hk] at hs
    cases hx : nth st k with
    | none => rw [hx] at hs; simp at hs
    | some x =>
      rw [hx] at hs; simp at hs; subst hs
      rw [(hf x).2.2.2.2 i] at hA
      by_cases e : k = s ∧ i = j
      · rw [if_pos e] at hA
        cases hq : nth x.arrs i <;> simp [hq] at hA
      · rw [if_neg e] at hA
        exact (h.arrs k i x A (fun hX' => hX ⟨hX', by rintro e'; injection e' with e1 e2; exact e ⟨e1, e2⟩⟩) hx hA).turn turns_id rfl

theorem RelX.mono {X X' : Lb → Prop} {w0 : World} {mu : Mu} {c : Cz} {st : St} {a : Act} {w : World} (h : RelX X w0 mu c st a w) (hX : ∀ l, X l → X' l) : RelX X' w0 mu c st a w :=
  ⟨h.regs, fun s sl cs hn => h.boxes s sl cs (fun h => hn (hX _ h)), fun s j sl A hn => h.arrs s j sl A (fun h => hn (hX _ h)), h.owned, h.free, h.kept, h.old, h.plain, h.anch⟩

/-- One pending name, turned. -/
def turnIo (i z s j : Nat) : Lb → Lb
  | .pend x y => if x = i ∧ y = z then .sp s j else .pend x y
  | l => l
def turnBox (i b : Nat) : Lb → Lb
  | .pend x y => if x = i then .sp b y else .pend x y
  | .pbox x => if x = i then .box b else .pbox x
  | l => l

theorem turnIo_turns (i z s j : Nat) : Turns (turnIo i z s j) := ⟨fun l h => by cases l <;> simp [turnIo, Lb.real] at h ⊢⟩
theorem turnBox_turns (i b : Nat) : Turns (turnBox i b) := ⟨fun l h => by cases l <;> simp [turnBox, Lb.real] at h ⊢⟩

theorem OwnAt.arr {c : Cz} {w : World} {l : Lb} {lc' : Loc} {A : Arr} {v : Value} (h : OwnAt c w l lc' A v) {ρ : Lb → Lb} {bx : Nat → Nat} {lc : Nat → Nat → Loc} {s j : Nat} (hl : lc s j = lc') (hρ : ρ l = .sp s j) : ArrOk (c.turn ρ bx lc) w s j A := by
  obtain ⟨_, _, h3, h4⟩ := h
  unfold ArrOk
  show match lc s j with | .nil => _ | .at b off cap => _
  rw [hl]
  cases lc' with
  | nil => exact h4
  | «at» b off cap =>
    obtain ⟨g1, g2, g3, g4⟩ := h4
    rw [h3]
    refine ⟨?_, g2, g3, fun i x hi => RepR.stays (stays_turn c w ρ bx lc) _ _ _ x rfl (g4 i x hi)⟩
    show (c.own b).map ρ = _
    rw [g1]
    simp [hρ]

/-- A lent array comes back. -/
theorem RelX.io {X : Lb → Prop} {w0 : World} {mu : Mu} {c : Cz} {st : St} {a : Act} {w : World} (h : RelX X w0 mu c st a w) {s j g i z : Nat} {A B : Arr} {v : Value} (hA : arr? st s j g = some A) (hw : B.r.width = A.r.width) (hn : B.xs.length = A.xs.length)
    (hB : OwnAt c w (.pend i z) (c.lc s j) B v) : RelX (fun l => X l ∧ l ≠ .sp s j) w0 mu (c.turn (turnIo i z s j) c.bx c.lc) (setArr st s j (some B)) a w ∧ Fw c st w (c.turn (turnIo i z s j) c.bx c.lc) (setArr st s j (some B)) w := by
  have hfw : Fw c st w (c.turn (turnIo i z s j) c.bx c.lc) (setArr st s j (some B)) w := fw_setArr (.inl hA) (fun _ e => by cases e; exact ⟨hw, hn⟩) _
  have ht := turnIo_turns i z s j
  refine ⟨h.turn ht hfw (fun t => by rw [getV_setArr]; exact hfw.relV (h.regs t)) (fun k sl cs hX hs hb => ?_) (fun k q sl A' hX hs hA' => ?_), hfw⟩
  · obtain ⟨f, hf, hk⟩ := nth_setArr st s j (some B) k
    rw [hk] at hs
    cases hx : nth st k with
    | none => rw [hx] at hs; simp at hs
    | some x =>
      rw [hx] at hs; simp at hs; subst hs
      rw [(hf x).2.1] at hb
      exact (h.boxes k x cs (fun hX' => hX ⟨hX', by simp⟩) hx hb).turn ht hfw rfl
  · obtain ⟨f, hf, hk⟩ := nth_setArr st s j (some B) k
    rw [hk] at hs
    cases hx : nth st k with
    | none => rw [hx] at hs; simp at hs
    | some x =>
      rw [hx] at hs; simp at hs; subst hs
      rw [(hf x).2.2.2.2 q] at hA'
      by_cases e : k = s ∧ q = j
      · rw [if_pos e] at hA'
        obtain ⟨rfl, rfl⟩ := e
        cases hq : nth x.arrs q with
        | none => simp [hq] at hA'
        | some A1 =>
          simp only [hq, Option.map_some, Option.some.injEq] at hA'
          subst hA'
          exact hB.arr rfl (by simp [turnIo])
      · rw [if_neg e] at hA'
        exact (h.arrs k q x A' (fun hX' => hX ⟨hX', by rintro e'; injection e' with e1 e2; exact e ⟨e1, e2⟩⟩) hx hA').turn ht rfl

/-- Cells at a new place. -/
theorem HoldL.cells {c : Cz} {w : World} {f : Nat → Lb} : (os : List OV) → (j : Nat) → (vs : List Value) → HoldL c w f j os vs →
    ∃ lcs : Nat → Loc, (∀ k A, nth (arrsOfOV os) k = some (some A) → ∃ v, OwnAt c w (f (j + k)) (lcs (j + k)) A v) ∧
      ∀ (c2 : Cz) (st2 : St) (d g : Nat), (∀ b, c.ok b → c2.ok b) → (∀ k, k < os.length → c2.lc d (j + k) = lcs (j + k)) → (∀ k A, k < os.length → arr? st2 d (j + k) g = some A → nth (arrsOfOV os) k = some (some A)) → g ≤ genA st2 d → RelL c2 st2 w (cellOfOV d g j os) vs
  | [], j, vs, h => by
    subst h
    exact ⟨fun _ => .nil, fun k A hA => by simp [arrsOfOV] at hA, fun _ _ _ _ _ _ _ _ => ⟨rfl, fun i x v hx => by simp [cellOfOV] at hx⟩⟩
  | o :: os, j, vs, h => by
    obtain ⟨v, l, rfl, hh, hcell⟩ : ∃ v l, vs = v :: l ∧ HoldL c w f (j + 1) os l ∧ ∃ lc, (∀ A, o.arr = some A → OwnAt c w (f j) lc A v) ∧ ∀ (c2 : Cz) (st2 : St) (d g : Nat), (∀ b, c.ok b → c2.ok b) → c2.lc d j = lc → (∀ A, arr? st2 d j g = some A → o.arr = some A) → g ≤ genA st2 d →
        ∃ x, cellOfOV d g j (o :: os) = x :: cellOfOV d g (j + 1) os ∧ RelC c2 st2 w x v := by
      cases o with
      | int k n => obtain ⟨l, h1, h2⟩ := h; exact ⟨_, l, h1, h2, .nil, (fun _ e => by cases e), fun c2 st2 d g _ _ _ _ => ⟨_, rfl, rfl⟩⟩
      | bool b => obtain ⟨l, h1, h2⟩ := h; exact ⟨_, l, h1, h2, .nil, (fun _ e => by cases e), fun c2 st2 d g _ _ _ _ => ⟨_, rfl, rfl⟩⟩
      | str b => obtain ⟨l, h1, h2⟩ := h; exact ⟨_, l, h1, h2, .nil, (fun _ e => by cases e), fun c2 st2 d g _ _ _ _ => ⟨_, rfl, rfl⟩⟩
      | nils => obtain ⟨l, h1, h2⟩ := h; exact ⟨_, l, h1, h2, .nil, (fun _ e => by cases e), fun c2 st2 d g _ _ _ _ => ⟨_, rfl, rfl⟩⟩
      | shr r xs =>
        obtain ⟨v, l, h1, h2, h3⟩ := h
        exact ⟨v, l, h1, h3, .nil, (fun _ e => by cases e), fun c2 st2 d g hok _ _ _ => ⟨.shr r xs, rfl, RepTy.stays ⟨Nat.le_refl _, fun _ _ _ => rfl, fun b _ hb => hok b hb⟩ _ _ _ h2⟩⟩
      | own A =>
        obtain ⟨v, l, h1, ⟨lc, h2⟩, h3⟩ := h
        refine ⟨v, l, h1, h3, lc, (fun A' e => by cases e; exact h2), fun c2 st2 d g _ hlc harr hg => ⟨.ref d j g .full, rfl, h2.1, hg, fun A' hA' => ?_⟩⟩
        have e := harr A' hA'
        cases e
        rw [hlc]
        exact h2.2.1
    obtain ⟨lc, q1, q2⟩ := hcell
    obtain ⟨lcs, g1, g2⟩ := HoldL.cells os (j + 1) l hh
    refine ⟨fun k => if k = j then lc else lcs k, fun k A' hA' => ?_, fun c2 st2 d g hok hlc harr hg => ?_⟩
    · cases k with
      | zero =>
        simp only [arrsOfOV, nth, Option.some.injEq] at hA'
        exact ⟨v, by simpa using q1 A' hA'⟩
      | succ k =>
        have := g1 k A' hA'
        rw [show j + 1 + k = j + (k + 1) by omega] at this
        show ∃ v, OwnAt c w (f (j + (k + 1))) (if j + (k + 1) = j then lc else lcs (j + (k + 1))) A' v
        rw [if_neg (by omega)]
        exact this
    · have hrest := g2 c2 st2 d g hok (fun k hk => by
        have : c2.lc d (j + (k + 1)) = if j + (k + 1) = j then lc else lcs (j + (k + 1)) := hlc (k + 1) (by simp; exact hk)
        rw [if_neg (by omega)] at this
        rw [show j + 1 + k = j + (k + 1) by omega]
        exact this) (fun k A' hk hA' => by
          have := harr (k + 1) A' (by simp; exact hk) (by rw [show j + (k + 1) = j + 1 + k by omega]; exact hA')
          exact this) hg
      have h0 : c2.lc d j = lc := by
        have := hlc 0 (by simp)
        simpa using this
      obtain ⟨x, e1, e2⟩ := q2 c2 st2 d g hok h0 (fun A hA => by
        have := harr 0 A (by simp) hA
        simpa [arrsOfOV, nth] using this) hg
      rw [e1]
      refine ⟨by simp [hrest.1], fun k y z hy hz => ?_⟩
      cases k with
      | zero =>
        simp only [List.getElem?_cons_zero, Option.some.injEq] at hy hz
        subst hy hz
        exact e2
      | succ k => exact hrest.2 k y z (by simpa using hy) (by simpa using hz)

/-- A lent box comes back. -/
theorem RelX.boxed {X : Lb → Prop} {w0 : World} {mu : Mu} {c : Cz} {st : St} {a : Act} {w : World} (h : RelX X w0 mu c st a w) {b g i : Nat} {s0 : Sl} {cs0 : List CV} {os : List OV} {v : Value} (hs0 : nth st b = some s0) (hbx : box? st b g = some cs0) (hv : v = .pointer (some ⟨c.bx b, 0, none⟩))
    (hB : BoxAt c w i os v) : ∃ c', RelX (fun l => X l ∧ l ≠ .box b) w0 mu c' (upd (fun s => { s with box := some (cellOfOV b (s0.ag + 1) 0 os), arrs := arrsOfOV os, ag := s0.ag + 1 }) st b) a w ∧
      Fw c st w c' (upd (fun s => { s with box := some (cellOfOV b (s0.ag + 1) 0 os), arrs := arrsOfOV os, ag := s0.ag + 1 }) st b) w ∧ Pass c c' (fun l => (∀ y, l ≠ .pend i y) ∧ l ≠ .pbox i) := by
  obtain ⟨blk, vs, ty, h1, h2, h3, h4⟩ := hB
  obtain ⟨lcs, g1, g2⟩ := HoldL.cells os 0 _ h4
  rw [hv] at h1
  have e : c.bx b = blk := by injection h1 with h1; injection h1 with h1; injection h1
  obtain ⟨_, hs0', hg', hcs0⟩ := box?_some hbx
  rw [hs0] at hs0'; cases hs0'
  let c' := c.turn (turnBox i b) c.bx (fun s j => if s = b then lcs j else c.lc s j)
  let st' := upd (fun s => { s with box := some (cellOfOV b (s0.ag + 1) 0 os), arrs := arrsOfOV os, ag := s0.ag + 1 }) st b
  have hn : ∀ s, nth st' s = if s = b then some { s0 with box := some (cellOfOV b (s0.ag + 1) 0 os), arrs := arrsOfOV os, ag := s0.ag + 1 } else nth st s := by
    intro s
    show nth (upd _ st b) s = _
    rw [nth_upd]
    by_cases e : s = b
    · subst e; simp [hs0]
    · simp [e]
  have hgen : genA st' b = s0.ag + 1 := by unfold genA; rw [hn]; simp
  have hgen0 : genA st b = s0.ag := by unfold genA; rw [hs0]
  have ht := turnBox_turns i b
  have hfw : Fw c st w c' st' w := {
    stays := stays_turn c w _ _ _
    refs := fun a' j' g' A' hg hA' => by
      obtain ⟨sl, k1, k2, k3⟩ := arr?_some hA'
      rw [hn] at k1
      by_cases e : a' = b
      · rw [if_pos e] at k1
        cases k1
        subst e
        simp only at k2
        omega
      · rw [if_neg e] at k1
        exact ⟨A', arr?_eq k1 k2 k3, rfl, rfl, by show (if a' = b then _ else _) = _; rw [if_neg e]⟩
    bxs := fun b' g' cs' hg hcs' => by
      obtain ⟨sl, k1, k2, k3⟩ := box?_some hcs'
      rw [hn] at k1
      by_cases e : b' = b
      · rw [if_pos e] at k1
        cases k1
        subst e
        exact ⟨⟨cs0, by unfold box?; rw [hs0]; simp at k2; simp [k2, hcs0]⟩, rfl⟩
      · rw [if_neg e] at k1
        exact ⟨⟨cs', by unfold box?; rw [k1]; simp [k2, k3]⟩, rfl⟩
    gA := fun a' => by
      by_cases e : a' = b
      · subst e; rw [hgen, hgen0]; omega
      · unfold genA; rw [hn, if_neg e]; exact Nat.le_refl _
    gB := fun a' => by
      by_cases e : a' = b
      · subst e; unfold genB; rw [hn, if_pos rfl, hs0]; exact Nat.le_refl _
      · unfold genB; rw [hn, if_neg e]; exact Nat.le_refl _ }
  have harr? : ∀ k A, arr? st' b k (s0.ag + 1) = some A → nth (arrsOfOV os) k = some (some A) := by
    intro k A hA
    obtain ⟨sl, k1, k2, k3⟩ := arr?_some hA
    rw [hn, if_pos rfl] at k1
    cases k1
    exact k3
  refine ⟨c', h.turn ht hfw (fun t => ?_) (fun s sl cs hX hs hb => ?_) (fun s j sl A hX hs hA => ?_), hfw, ⟨fun k l hl hk => ?_, fun k hk => Cz.turn_ok.2 hk⟩⟩
  · have : getV st' t = getV st t := by
      unfold getV
      rw [hn]
      by_cases e : t = b
      · subst e; rw [if_pos rfl, hs0]
      · rw [if_neg e]
    rw [this]
    exact hfw.relV (h.regs t)
  · rw [hn] at hs
    by_cases e' : s = b
    · subst e'
      rw [if_pos rfl] at hs
      cases hs
      simp only [Option.some.injEq] at hb
      subst hb
      refine ⟨?_, vs, ty, by show w.heap[c.bx s]? = _; rw [e]; exact h3, ?_⟩
      · show (c.own (c.bx s)).map (turnBox i s) = some (.box s)
        rw [e, h2]
        simp [turnBox]
      · exact g2 c' st' s (s0.ag + 1) (fun b hb => Cz.turn_ok.2 hb) (fun k _ => by show (if s = s then _ else _) = _; rw [if_pos rfl]) (fun k A _ hA => harr? k A (by simpa using hA)) (by rw [hgen]; exact Nat.le_refl _)
    · rw [if_neg e'] at hs
      exact (h.boxes s sl cs (fun hX' => hX ⟨hX', by rintro e2; injection e2 with e2; exact e' e2⟩) hs hb).turn ht hfw rfl
  · rw [hn] at hs
    by_cases e' : s = b
    · subst e'
      rw [if_pos rfl] at hs
      cases hs
      obtain ⟨v', hv'⟩ := g1 j A hA
      exact hv'.arr (by simp) (by simp [turnBox])
    · rw [if_neg e'] at hs
      exact (h.arrs s j sl A (fun hX' => hX ⟨hX', by simp⟩) hs hA).turn ht (by simp [e'])
  · show (c.own k).map (turnBox i b) = _
    rw [hk]
    simp only [Option.map_some, Option.some.injEq]
    cases l with
    | pend x y => simp only [turnBox]; rw [if_neg]; rintro rfl; exact hl.1 y rfl
    | pbox x => simp only [turnBox]; rw [if_neg]; rintro rfl; exact hl.2 rfl
    | _ => rfl

end Go.TM

/- The tree machine, part 25: a call, from end to end (I). -/
namespace Go.TM
open Go Go.RowKit

def Lb.keepH : Lb → Option Lb
  | .pend i j => some (.pend i j)
  | .pbox i => some (.pbox i)
  | .pres j => some (.pres j)
  | _ => none

/-- The caller's map and what the callee leaves, in one. -/
noncomputable def Cz.merge (c c1 : Cz) (n : Nat) (m : Nat → Prop) : Cz :=
  { bx := c.bx, lc := c.lc, own := fun b => have := Classical.propDecidable (b < n ∧ ¬ m b); if b < n ∧ ¬ m b then c.own b else (c1.own b).bind Lb.keepH }

theorem Cz.merge_old {c c1 : Cz} {n : Nat} {m : Nat → Prop} {b : Nat} (h : b < n ∧ ¬ m b) : (c.merge c1 n m).own b = c.own b := by
  unfold Cz.merge; simp only; rw [if_pos h]
theorem Cz.merge_new {c c1 : Cz} {n : Nat} {m : Nat → Prop} {b : Nat} (h : ¬ (b < n ∧ ¬ m b)) : (c.merge c1 n m).own b = (c1.own b).bind Lb.keepH := by
  unfold Cz.merge; simp only; rw [if_neg h]

/-- The callee has come back: all that was not lent is as it was. -/
theorem Rel.moved {w0 : World} {mu : Mu} {c : Cz} {st : St} {a : Act} {w : World} (h : Rel w0 mu c st a w) {μ : Mu} {c1 : Cz} {w' : World} (hb : Bas w μ c1 w') {X : Lb → Prop} (hm : ∀ b, μ.m b → ∃ l, c.own b = some l ∧ X l) (hX : ∀ l, X l → l ≠ .out) :
    RelX X w0 mu (c.merge c1 w.heap.size μ.m) st a w' ∧ Fw c st w (c.merge c1 w.heap.size μ.m) st w' ∧ (∀ b l, l.keepH = some l → c1.own b = some l → (c.merge c1 w.heap.size μ.m).own b = some l) ∧ ((∀ b, μ.ok b → c.own b = none) → ∀ b, c1.ok b → (c.merge c1 w.heap.size μ.m).ok b) := by
  have hsz : w.heap.size ≤ w'.heap.size := hb.kept.2.2.2
  have hst : Stays w w' c.ok (c.merge c1 w.heap.size μ.m).ok := {
    size := hsz
    block := fun b hlt hok => hb.old b hlt (fun hm' => by
      obtain ⟨l, hl, _⟩ := hm b hm'
      unfold Cz.ok at hok
      rw [hok] at hl; cases hl)
    ok := fun b hlt hok => by
      unfold Cz.ok
      rw [Cz.merge_old ⟨hlt, fun hm' => by
        obtain ⟨l, hl, _⟩ := hm b hm'
        unfold Cz.ok at hok
        rw [hok] at hl; cases hl⟩]
      exact hok }
  have hfw : Fw c st w (c.merge c1 w.heap.size μ.m) st w' := ⟨hst, fun a' j g A' _ hA => ⟨A', hA, rfl, rfl, rfl⟩, fun b g cs _ hc => ⟨⟨cs, hc⟩, rfl⟩, fun _ => Nat.le_refl _, fun _ => Nat.le_refl _⟩
  -- a block under a name that was not lent
  have keep : ∀ b l, c.own b = some l → ¬ X l → w'.heap[b]? = w.heap[b]? ∧ (c.merge c1 w.heap.size μ.m).own b = c.own b := by
    intro b l hl hn
    have hlt := (h.owned b l hl).1
    have hm' : ¬ μ.m b := fun hm' => by
      obtain ⟨l', hl', hx⟩ := hm b hm'
      rw [hl] at hl'; cases hl'
      exact hn hx
    exact ⟨hb.old b hlt hm', Cz.merge_old ⟨hlt, hm'⟩⟩
  refine ⟨⟨fun t => hfw.relV (h.regs t), fun s sl cs hn hs hbx => ?_, fun s j sl A hn hs hA => ?_, fun b l hl => ?_, fun b hlt hl => ?_, ?_, fun k hk hmu => ?_, h.plain, fun p hp => hfw.anch (h.anch p hp)⟩, hfw, fun b l hk hl => ?_, fun hok b h1 => ?_⟩
  · have h0 := h.boxes s sl cs hs hbx
    obtain ⟨k1, k2⟩ := keep _ _ h0.1 hn
    exact h0.go hfw rfl k2 k1
  · have h0 := h.arrs s j sl A hs hA
    refine h0.go hst rfl (fun b off cap hlc => ?_)
    unfold ArrOk at h0
    rw [hlc] at h0
    obtain ⟨g1, _, ⟨cur, ty, g3, _⟩, _⟩ := h0
    have hlt : b < w.heap.size := (Array.getElem?_eq_some_iff.1 g3).1
    cases ho : A.own with
    | true => rw [ho] at g1; exact keep b _ g1 hn
    | false =>
      rw [ho] at g1
      have hm' : ¬ μ.m b := fun hm' => by
        obtain ⟨l', hl', _⟩ := hm b hm'
        rw [g1] at hl'; cases hl'
      exact ⟨hb.old b hlt hm', Cz.merge_old ⟨hlt, hm'⟩⟩
  · by_cases e : b < w.heap.size ∧ ¬ μ.m b
    · rw [Cz.merge_old e] at hl
      have := h.owned b l hl
      exact ⟨Nat.lt_of_lt_of_le this.1 hsz, this.2⟩
    · rw [Cz.merge_new e] at hl
      obtain ⟨k, hk, e2⟩ := Option.bind_eq_some_iff.1 hl
      obtain ⟨g1, g2⟩ := hb.owned b k hk
      refine ⟨g1, .inr ?_⟩
      have hk' : k ≠ .out := by rintro rfl; simp [Lb.keepH] at e2
      by_cases hlt : b < w.heap.size
      · have hm' : μ.m b := Classical.not_not.1 (fun h => e ⟨hlt, h⟩)
        obtain ⟨l', hl', hx⟩ := hm b hm'
        rcases (h.owned b l' hl').2 with q | q
        · exact absurd q (hX l' hx)
        · exact q
      · have := h.kept.2.2.2
        exact .inl (by omega)
  · by_cases e : b < w.heap.size ∧ ¬ μ.m b
    · rw [Cz.merge_old e] at hl
      exact h.free b hlt hl
    · have hlt' : b < w.heap.size := Nat.lt_of_lt_of_le hlt h.kept.2.2.2
      have hm' : μ.m b := Classical.not_not.1 (fun h => e ⟨hlt', h⟩)
      obtain ⟨l', hl', hx⟩ := hm b hm'
      rcases (h.owned b l' hl').2 with q | q | q
      · exact absurd q (hX l' hx)
      · omega
      · exact .inl q
  · exact ⟨hb.kept.1.trans h.kept.1, hb.kept.2.1.trans h.kept.2.1, hb.kept.2.2.1.trans h.kept.2.2.1, Nat.le_trans h.kept.2.2.2 hsz⟩
  · have hlt' : k < w.heap.size := Nat.lt_of_lt_of_le hk h.kept.2.2.2
    rw [hb.old k hlt' (fun hm' => ?_)]
    · exact h.old k hk hmu
    · obtain ⟨l', hl', hx⟩ := hm k hm'
      rcases (h.owned k l' hl').2 with q | q | q
      · exact hX l' hx q
      · omega
      · exact hmu q
  · rw [Cz.merge_new (fun e => ?_), hl]
    · exact hk
    · rcases (hb.owned b l hl).2 with q | q | q
      · subst q; simp [Lb.keepH] at hk
      · omega
      · exact e.2 q
  · unfold Cz.ok at h1 ⊢
    by_cases e : b < w.heap.size ∧ ¬ μ.m b
    · rw [Cz.merge_old e]
      rcases hb.free b e.1 h1 with q | q
      · exact absurd q e.2
      · exact hok b q
    · rw [Cz.merge_new e, h1]; rfl

theorem Cz.turn_id_own (c : Cz) (bx : Nat → Nat) (lc : Nat → Nat → Loc) : (c.turn id bx lc).own = c.own := by
  funext b
  unfold Cz.turn
  simp

/-- All that is used up goes. -/
theorem killAll_ok {w0 : World} {mu : Mu} {a : Act} {w : World} : (ks : List Lb) → {X : Lb → Prop} → {c : Cz} → {st : St} → RelX X w0 mu c st a w →
    ∃ c', RelX (fun l => X l ∧ ∀ s j, Lb.sp s j ∈ ks → l ≠ .sp s j) w0 mu c' (killAll st ks) a w ∧ Fw c st w c' (killAll st ks) w ∧ c'.own = c.own
  | [], X, c, st, h => ⟨c, h.mono (fun l hl => ⟨hl, by simp⟩), Fw.refl c st w, rfl⟩
  | k :: ks, X, c, st, h => by
    have skip : killAll st (k :: ks) = killAll st ks → (∀ s j, k ≠ .sp s j) → ∃ c', RelX (fun l => X l ∧ ∀ s j, Lb.sp s j ∈ k :: ks → l ≠ .sp s j) w0 mu c' (killAll st (k :: ks)) a w ∧ Fw c st w c' (killAll st (k :: ks)) w ∧ c'.own = c.own := by
      intro e hk
      obtain ⟨c', h1, h2, h3⟩ := killAll_ok ks h
      rw [e]
      refine ⟨c', h1.mono (fun l hl => ⟨hl.1, fun s j hm => ?_⟩), h2, h3⟩
      rcases List.mem_cons.1 hm with e2 | hm
      · exact absurd e2.symm (hk s j)
      · exact hl.2 s j hm
    cases k with
    | sp s j =>
      obtain ⟨h1, h2⟩ := h.kill s j
      obtain ⟨c', h3, h4, h5⟩ := killAll_ok ks h1
      refine ⟨c', h3.mono (fun l hl => ⟨hl.1.1, fun s' j' hm => ?_⟩), h2.trans h4, h5.trans (Cz.turn_id_own _ _ _)⟩
      rcases List.mem_cons.1 hm with e2 | hm
      · cases e2; exact hl.1.2
      · exact hl.2 s' j' hm
    | _ => exact skip rfl (by simp)

/-- What comes back of an argument. -/
def exLb (m : Pm) : V → List Lb
  | .one (.ptr b _ _) => [.box b]
  | .one (.ref a j _ _) => match m with
    | .io => [.sp a j]
    | _ => []
  | .agg cs => match m with
    | .lend => cs.filterMap fun x => match x with | .ref a j _ _ => some (.sp a j) | _ => none
    | _ => []
  | _ => []

/-- An argument told by itself. -/
def ExpOk (st : St) (m : Pm × V) (av : AV) : Prop := ∃ u q r, expArg st m.1 m.2 = some (av, u, q, r)

theorem expL_ref {st : St} {own : Bool} : (cs : List CV) → {os : List OV} → {u : List (Option Lb)} → {r : List (Nat × Nat)} → expL st own cs = some (os, u, r) → ∀ (k : Nat) {a j g : Nat} , cs[k]? = some (.ref a j g .full) → os[k]? = (arr? st a j g).map fun A => bif own && A.own then .own A else .shr A.r A.xs
  | [], _, _, _, h => by intro k a j g hk; simp at hk
  | x :: cs, os, u, r, h => by
    unfold expL at h
    cases hc : expC st own x with
    | none => simp [hc] at h
    | some p =>
      obtain ⟨o, u1, r1⟩ := p
      cases hq : expL st own cs with
      | none => simp [hc, hq] at h
      | some q =>
        obtain ⟨os', us, rs⟩ := q
        simp only [hc, hq, Option.some.injEq, Prod.mk.injEq] at h
        obtain ⟨rfl, rfl, _⟩ := h
        intro k a j g hk
        cases k with
        | succ k => simpa using expL_ref cs hq k (by simpa using hk)
        | zero =>
          simp only [List.getElem?_cons_zero, Option.some.injEq] at hk
          subst hk
          unfold expC at hc
          simp only at hc
          cases hA : arr? st a j g with
          | none => simp [hA] at hc
          | some A =>
            simp only [hA] at hc
            cases hb : (own && A.own) <;> simp only [hb, cond_true, cond_false, Option.some.injEq, Prod.mk.injEq] at hc <;> obtain ⟨rfl, _⟩ := hc <;> simp [hb, View.app]

/-- The arrays of a struct come back. -/
theorem backL_ok {w0 wb : World} {mu : Mu} {a : Act} {w : World} {c0 : Cz} {st0 : St} {i : Nat} {As : List (Option Arr)} : (cs : List CV) → (j0 : Nat) → (us : List Value) → {X : Lb → Prop} → {c : Cz} → {st st' : St} → RelX X w0 mu c st a w → Fw c0 st0 wb c st w →
    (∀ (k : Nat) (x : CV) (v : Value), cs[k]? = some x → us[k]? = some v → RelC c0 st0 wb x v) →
    (∀ (k s j g : Nat) (vw : View), cs[k]? = some (.ref s j g vw) → ∃ A B u, arr? st0 s j g = some A ∧ nth As (j0 + k) = some (some B) ∧ us[k]? = some u ∧ B.r.width = A.r.width ∧ B.xs.length = A.xs.length ∧ OwnAt c w (.pend i (j0 + k)) (c0.lc s j) B u) →
    backL st j0 cs As = some st' →
    ∃ c', RelX (fun l => X l ∧ ∀ s j g vw, CV.ref s j g vw ∈ cs → l ≠ .sp s j) w0 mu c' st' a w ∧ Fw c0 st0 wb c' st' w ∧ Pass c c' (fun l => ∀ y, l ≠ .pend i y)
  | [], j0, us, X, c, st, st', h, hfw, _, _, hv => by
    simp only [backL, Option.some.injEq] at hv
    subst hv
    exact ⟨c, h.mono (fun l hl => ⟨hl, by simp⟩), hfw, ⟨fun _ _ _ h => h, fun _ h => h⟩⟩
  | x :: cs, j0, us, X, c, st, st', h, hfw, hr, hB, hv => by
    have skip : (∀ s j g vw, x ≠ .ref s j g vw) → backL st (j0 + 1) cs As = some st' → ∃ c', RelX (fun l => X l ∧ ∀ s j g vw, CV.ref s j g vw ∈ x :: cs → l ≠ .sp s j) w0 mu c' st' a w ∧ Fw c0 st0 wb c' st' w ∧ Pass c c' (fun l => ∀ y, l ≠ .pend i y) := by
      intro hx hv
      obtain ⟨c', g1, g2, g3⟩ := backL_ok (i := i) cs (j0 + 1) us.tail h hfw (fun k y v hk hv => hr (k + 1) y v (by simpa using hk) (by simpa using hv)) (fun k s j g vw hk => by
        obtain ⟨A, B, u, q1, q2, q3, q4, q5, q6⟩ := hB (k + 1) s j g vw (by simpa using hk)
        refine ⟨A, B, u, q1, by rw [show j0 + 1 + k = j0 + (k + 1) by omega]; exact q2, by simpa using q3, q4, q5, by rw [show j0 + 1 + k = j0 + (k + 1) by omega]; exact q6⟩) hv
      refine ⟨c', g1.mono (fun l hl => ⟨hl.1, fun s j g vw hm => ?_⟩), g2, g3⟩
      rcases List.mem_cons.1 hm with e | hm
      · exact absurd e.symm (hx s j g vw)
      · exact hl.2 s j g vw hm
    cases x with
    | ref s j g vw =>
      unfold backL at hv
      split at hv
      · rename_i B A1 hnB hA1
        obtain ⟨A, B', u, q1, q2, q3, q4, q5, q6⟩ := hB 0 s j g vw rfl
        rw [Nat.add_zero] at q2 q6
        rw [hnB] at q2
        simp only [Option.some.injEq] at q2
        subst q2
        have hr0 := hr 0 _ u rfl q3
        obtain ⟨A0', p1, p2, p3, p4⟩ := hfw.refs s j g A1 hr0.2.1 hA1
        rw [q1] at p1; cases p1
        have hO' : OwnAt c w (.pend i j0) (c.lc s j) B u := by rw [p4]; exact q6
        obtain ⟨g1, g2⟩ := h.io hA1 (q4.trans p2.symm) (q5.trans p3.symm) hO'
        have hpass : ∀ b l, l ≠ .pend i j0 → c.own b = some l → (c.turn (turnIo i j0 s j) c.bx c.lc).own b = some l := by
          intro b l hl hb
          show (c.own b).map _ = _
          rw [hb]
          simp only [Option.map_some, Option.some.injEq]
          cases l with
          | pend x y => simp only [turnIo]; rw [if_neg]; rintro ⟨rfl, rfl⟩; exact hl rfl
          | _ => rfl
        obtain ⟨c', k1, k2, k3⟩ := backL_ok (i := i) cs (j0 + 1) us.tail g1 (hfw.trans g2) (fun k y v hk hv => hr (k + 1) y v (by simpa using hk) (by simpa using hv)) (fun k s' j' g' vw' hk => by
          obtain ⟨A, B, u, q1, q2, q3, q4, q5, q6⟩ := hB (k + 1) s' j' g' vw' (by simpa using hk)
          refine ⟨A, B, u, q1, by rw [show j0 + 1 + k = j0 + (k + 1) by omega]; exact q2, by simpa using q3, q4, q5, ?_⟩
          rw [show j0 + 1 + k = j0 + (k + 1) by omega]
          exact q6.pass (fun b hb => hpass b _ (by simp) hb) (.inl fun b hb => Cz.turn_ok.2 hb)) hv
        refine ⟨c', k1.mono (fun l hl => ⟨hl.1.1, fun s' j' g' vw' hm => ?_⟩), k2, ⟨fun b l hl hb => k3.pend b l hl (hpass b l (hl j0) hb), fun b hb => k3.ok b (Cz.turn_ok.2 hb)⟩⟩
        rcases List.mem_cons.1 hm with e | hm
        · cases e; exact hl.1.2
        · exact hl.2 s' j' g' vw' hm
      · cases hv
    | _ => exact skip (by simp) hv

theorem backAll_ok {w0 wb : World} {mu : Mu} {a : Act} {w : World} {c0 : Cz} {st0 : St} {lc : Nat → Nat → Loc} : (ms : List (Pm × V)) → (i : Nat) → (avs : List AV) → (xs : List Value) → (es : List XV) → {X : Lb → Prop} → {c : Cz} → {st st' : St} → RelX X w0 mu c st a w → Fw c0 st0 wb c st w →
    (∀ (k : Nat) (m : Pm × V) (x : Value), ms[k]? = some m → xs[k]? = some x → RelV c0 st0 wb m.2 x) → (∀ (k : Nat) (m : Pm × V) (av : AV), ms[k]? = some m → avs[k]? = some av → ExpOk st0 m av) → ms.length = avs.length → ms.length = xs.length → (∀ (k : Nat) (m : Pm × V), ms[k]? = some m → lc (i + k) = locOf c0 m.2) →
    HoldX c w lc i avs xs es → backAll st ms es = some st' →
    ∃ c', RelX (fun l => X l ∧ ∀ m ∈ ms, l ∉ exLb m.1 m.2) w0 mu c' st' a w ∧ Fw c0 st0 wb c' st' w ∧ Pass c c' (fun l => ∃ j, l = .pres j)
  | [], i, avs, xs, es, X, c, st, st', h, hfw, _, _, _, _, _, hx, hv => by
    cases es with
    | nil =>
      simp only [backAll, Option.some.injEq] at hv
      subst hv
      exact ⟨c, h.mono (fun l hl => ⟨hl, by simp⟩), hfw, ⟨fun _ _ _ h => h, fun _ h => h⟩⟩
    | cons _ _ => simp [backAll] at hv
  | (m, v) :: ms, i, [], xs, es, X, c, st, st', h, hfw, hr, he, hn, hn2, hlc, hx, hv => by simp at hn
  | (m, v) :: ms, i, av :: avs, [], es, X, c, st, st', h, hfw, hr, he, hn, hn2, hlc, hx, hv => by simp at hn2
  | (m, v) :: ms, i, av :: avs, x :: xs, es, X, c, st, st', h, hfw, hr, he, hn, hn2, hlc, hx, hv => by
    have hr0 := hr 0 (m, v) x rfl rfl
    obtain ⟨u, q, r, he0⟩ := he 0 (m, v) av rfl rfl
    have hlc0 := hlc 0 (m, v) rfl
    simp only [Nat.add_zero] at hlc0
    have hr' : ∀ (k : Nat) (m : Pm × V) (x : Value), ms[k]? = some m → xs[k]? = some x → RelV c0 st0 wb m.2 x := fun k m' x' h1 h2 => hr (k + 1) m' x' (by simpa using h1) (by simpa using h2)
    have he' : ∀ (k : Nat) (m : Pm × V) (av : AV), ms[k]? = some m → avs[k]? = some av → ExpOk st0 m av := fun k m' x' h1 h2 => he (k + 1) m' x' (by simpa using h1) (by simpa using h2)
    have hlc' : ∀ (k : Nat) (m : Pm × V), ms[k]? = some m → lc (i + 1 + k) = locOf c0 m.2 := fun k m' h1 => by
      have := hlc (k + 1) m' (by simpa using h1)
      rwa [show i + (k + 1) = i + 1 + k by omega] at this
    have hn' : ms.length = avs.length := by simpa using hn
    have hn2' : ms.length = xs.length := by simpa using hn2
    unfold backAll at hv
    cases hb : backP st m v es with
    | none => simp [hb] at hv
    | some p =>
      obtain ⟨st1, es1⟩ := p
      simp only [hb] at hv
      -- go on from a state that meets the rest
      have go : ∀ {X1 : Lb → Prop} {c1 : Cz}, RelX X1 w0 mu c1 st1 a w → Fw c0 st0 wb c1 st1 w → (∀ l, X1 l → X l ∧ l ∉ exLb m v) → HoldX c1 w lc (i + 1) avs xs es1 → Pass c c1 (fun l => ∃ j, l = .pres j) →
          ∃ c', RelX (fun l => X l ∧ ∀ m' ∈ (m, v) :: ms, l ∉ exLb m'.1 m'.2) w0 mu c' st' a w ∧ Fw c0 st0 wb c' st' w ∧ Pass c c' (fun l => ∃ j, l = .pres j) := by
        intro X1 c1 g1 g2 g3 g4 g5
        obtain ⟨c', k1, k2, k3⟩ := backAll_ok ms (i + 1) avs xs es1 g1 g2 hr' he' hn' hn2' hlc' g4 hv
        refine ⟨c', k1.mono (fun l hl => ⟨(g3 l hl.1).1, fun m' hm' => ?_⟩), k2, ⟨fun b l hl hb => k3.pend b l hl (g5.pend b l hl hb), fun b hb => k3.ok b (g5.ok b hb)⟩⟩
        rcases List.mem_cons.1 hm' with rfl | hm'
        · exact (g3 l hl.1).2
        · exact hl.2 m' hm'
      -- an argument of which nothing comes back
      have none_back : exLb m v = [] → st1 = st → es1 = es → (∃ ag os, av = .val ag os) → ∃ c', RelX (fun l => X l ∧ ∀ m' ∈ (m, v) :: ms, l ∉ exLb m'.1 m'.2) w0 mu c' st' a w ∧ Fw c0 st0 wb c' st' w ∧ Pass c c' (fun l => ∃ j, l = .pres j) := by
        rintro e1 rfl rfl ⟨ag, os, rfl⟩
        exact go h hfw (fun l hl => ⟨hl, by rw [e1]; simp⟩) hx ⟨fun _ _ _ h => h, fun _ h => h⟩
      cases v with
      | tup us => simp [expArg] at he0
      | agg cs =>
        have hval : ∀ u q r, (match expL st0 m.isOwn cs with | some (os, u, r) => some (AV.val true os, somes u, somes u, r) | none => none) = some (av, u, q, r) → ∃ ag os, av = .val ag os := by
          intro u q r he0
          cases hq : expL st0 m.isOwn cs with
          | none => simp [hq] at he0
          | some p =>
            obtain ⟨os, us, rs⟩ := p
            simp only [hq, Option.some.injEq, Prod.mk.injEq] at he0
            exact ⟨_, _, he0.1.symm⟩
        unfold expArg at he0
        cases m with
        | shr =>
          simp only [backP, Option.some.injEq, Prod.mk.injEq] at hb
          exact none_back rfl hb.1.symm hb.2.symm (hval _ _ _ he0)
        | own =>
          simp only [backP, Option.some.injEq, Prod.mk.injEq] at hb
          exact none_back rfl hb.1.symm hb.2.symm (hval _ _ _ he0)
        | io =>
          simp only [backP, Option.some.injEq, Prod.mk.injEq] at hb
          exact none_back rfl hb.1.symm hb.2.symm (hval _ _ _ he0)
        | lend =>
          simp only at he0
          cases hq : expL st0 true cs with
          | none => simp [hq] at he0
          | some p =>
            obtain ⟨os, us, rs⟩ := p
            simp only [hq] at he0
            obtain ⟨hall, he1⟩ := bif_some he0
            simp only [Option.some.injEq, Prod.mk.injEq] at he1
            obtain ⟨rfl, _⟩ := he1
            obtain ⟨As, l, rfl, ⟨us', rfl, hX⟩, hrest⟩ := hx
            unfold backP at hb
            obtain ⟨st2, hb2, e2⟩ := Option.map_eq_some_iff.1 hb
            injection e2 with e2 e3
            subst e2 e3
            obtain ⟨vs0, e0, hl0⟩ := hr0
            injection e0 with e0
            subst e0
            obtain ⟨c1, g1, g2, g3⟩ := backL_ok (i := i) (As := As) cs 0 us'.toList h hfw (fun k x v hk hv => hl0.2 k x v hk (by simpa using hv)) (fun k s j g vw hk => by
              have hmem := List.mem_of_getElem? hk
              have hvw := List.all_eq_true.1 hall _ hmem
              unfold lendC at hvw
              rw [Bool.and_eq_true] at hvw
              cases hA : arr? st0 s j g with
              | none => rw [hA] at hvw; cases hvw.2
              | some A =>
                have hfull : vw = .full := by
                  cases vw with
                  | full => rfl
                  | «from» _ => cases hvw.1
                  | sub _ _ => cases hvw.1
                subst hfull
                rw [hA] at hvw
                have ho : os[k]? = some (.own A) := by
                  have := expL_ref cs hq k hk
                  rw [hA] at this
                  have hA2 : A.own = true := hvw.2
                  simpa [hA2] using this
                obtain ⟨B, u, k1, k2, k3, k4, k5⟩ := hX k A ho
                refine ⟨A, B, u, rfl, by rw [Nat.zero_add]; exact k1, k2, k3, k4, ?_⟩
                have : lc i k = c0.lc s j := by
                  rw [hlc0]
                  show locC c0 cs[k]? = _
                  rw [hk]; rfl
                rw [← this, Nat.zero_add]; exact k5) hb2
            refine go g1 g2 (fun l hl => ⟨hl.1, fun hm => ?_⟩) ?_ ⟨fun b l hl => g3.pend b l (by obtain ⟨j, rfl⟩ := hl; simp), g3.ok⟩
            · obtain ⟨x, hx1, hx2⟩ := List.mem_filterMap.1 hm
              cases x with
              | ref s j g vw => simp only [Option.some.injEq] at hx2; exact hl.2 s j g vw hx1 hx2.symm
              | _ => cases hx2
            · exact HoldX.pass avs (i + 1) (fun b k hk hb => g3.pend b _ (by simp) hb) (fun b k j hk hb => g3.pend b _ (by intro y; simp; omega) hb) xs _ (.inl g3.ok) hrest
      | one cx =>
        cases cx with
        | ptr b g off =>
          unfold backP at hb
          cases es with
          | nil => simp at hb
          | cons e es2 => cases e with
            | io _ => simp at hb
            | lend _ => simp at hb
            | box os =>
              simp only at hb
              split at hb
              · rename_i s0 cs0 hs0 hcs0
                simp only [Option.some.injEq, Prod.mk.injEq] at hb
                obtain ⟨rfl, rfl⟩ := hb
                -- what is handed
                have hav : ∃ os0, av = .box os0 := by
                  unfold expArg at he0
                  simp only at he0
                  cases hq : box? st0 b g with
                  | none => simp [hq] at he0
                  | some cs =>
                    simp only [hq] at he0
                    cases hq2 : expL st0 true cs with
                    | none => simp [hq2] at he0
                    | some p =>
                      obtain ⟨os', us, rs⟩ := p
                      simp only [hq2] at he0
                      obtain ⟨_, he1⟩ := bif_some he0
                      simp only [Option.some.injEq, Prod.mk.injEq] at he1
                      exact ⟨_, he1.1.symm⟩
                obtain ⟨os0, rfl⟩ := hav
                obtain ⟨os1, l, e1, hB, hrest⟩ := hx
                cases e1
                have hp := (hfw.relV (v := x) hr0)
                have e2 := hp.2.2 cs0 hcs0
                have e3 : x = .pointer (some ⟨c.bx b, 0, none⟩) := by
                  obtain ⟨blk, vs, ty, q1, _⟩ := hB
                  rw [e2] at q1 ⊢
                  injection q1 with q1
                  injection q1 with q1
                  injection q1 with q1 q2
                  rw [q2]
                obtain ⟨c1, g1, g2, g3⟩ := h.boxed hs0 hcs0 e3 hB
                refine go g1 (hfw.trans g2) (fun l hl => ⟨hl.1, by simp [exLb]; exact hl.2⟩) ?_ ⟨fun b l hl => g3.pend b l (by obtain ⟨j, rfl⟩ := hl; simp), g3.ok⟩
                exact HoldX.pass avs (i + 1) (fun b k hk hb => g3.pend b _ (by constructor <;> simp; omega) hb) (fun b k j hk hb => g3.pend b _ (by constructor <;> simp; omega) hb) xs es2 (.inl g3.ok) hrest
              · cases hb
        | ref s j g vw =>
          have hval : m ≠ .io → ∃ ag os, av = .val ag os := by
            intro hm
            unfold expArg at he0
            cases m with
            | io => exact absurd rfl hm
            | shr =>
              cases hq : expL st0 Pm.shr.isOwn [.ref s j g vw] with
              | none => simp [hq] at he0
              | some p => obtain ⟨os, us, rs⟩ := p; simp only [hq, Option.some.injEq, Prod.mk.injEq] at he0; exact ⟨_, _, he0.1.symm⟩
            | lend =>
              cases hq : expL st0 Pm.lend.isOwn [.ref s j g vw] with
              | none => simp [hq] at he0
              | some p => obtain ⟨os, us, rs⟩ := p; simp only [hq, Option.some.injEq, Prod.mk.injEq] at he0; exact ⟨_, _, he0.1.symm⟩
            | own =>
              cases hq : expL st0 Pm.own.isOwn [.ref s j g vw] with
              | none => simp [hq] at he0
              | some p => obtain ⟨os, us, rs⟩ := p; simp only [hq, Option.some.injEq, Prod.mk.injEq] at he0; exact ⟨_, _, he0.1.symm⟩
          cases m with
          | shr =>
            simp only [backP, Option.some.injEq, Prod.mk.injEq] at hb
            exact none_back rfl hb.1.symm hb.2.symm (hval (by simp))
          | lend =>
            simp only [backP, Option.some.injEq, Prod.mk.injEq] at hb
            exact none_back rfl hb.1.symm hb.2.symm (hval (by simp))
          | own =>
            simp only [backP, Option.some.injEq, Prod.mk.injEq] at hb
            exact none_back rfl hb.1.symm hb.2.symm (hval (by simp))
          | io =>
            unfold backP at hb
            simp only at hb
            split at hb
            · rename_i B es2 A2 hA2
              simp only [Option.some.injEq, Prod.mk.injEq] at hb
              obtain ⟨rfl, rfl⟩ := hb
              have hav : ∃ A0, av = .io A0 ∧ arr? st0 s j g = some A0 := by
                unfold expArg at he0
                cases vw with
                | full =>
                  cases hA : arr? st0 s j g with
                  | none => simp [hA] at he0
                  | some A =>
                    simp only [hA] at he0
                    obtain ⟨_, he1⟩ := bif_some he0
                    simp only [Option.some.injEq, Prod.mk.injEq] at he1
                    exact ⟨A, he1.1.symm, rfl⟩
                | «from» _ => simp at he0
                | sub _ _ => simp at he0
              obtain ⟨A0, rfl, hA0⟩ := hav
              obtain ⟨B', l, e1, hw, hlen, hO, hrest⟩ := hx
              cases e1
              obtain ⟨A0', q1, q2, q3, q4⟩ := hfw.refs s j g A2 hr0.2.1 hA2
              rw [hA0] at q1; cases q1
              have hO' : OwnAt c w (.pend i 0) (c.lc s j) B x := by
                rw [q4]
                have : lc i 0 = c0.lc s j := by rw [hlc0]; rfl
                rw [← this]; exact hO
              obtain ⟨g1, g2⟩ := h.io hA2 (hw.trans q2.symm) (hlen.trans q3.symm) hO'
              have hpass : ∀ b l, (∀ y, l ≠ .pend i y) → c.own b = some l → (c.turn (turnIo i 0 s j) c.bx c.lc).own b = some l := by
                intro b l hl hb
                show (c.own b).map _ = _
                rw [hb]
                simp only [Option.map_some, Option.some.injEq]
                cases l with
                | pend x y => simp only [turnIo]; rw [if_neg]; rintro ⟨rfl, _⟩; exact hl y rfl
                | _ => rfl
              refine go g1 (hfw.trans g2) (fun l hl => ⟨hl.1, by simp [exLb]; exact hl.2⟩) ?_ ⟨fun b l hl => hpass b l (by obtain ⟨j, rfl⟩ := hl; simp), fun b hb => Cz.turn_ok.2 hb⟩
              exact HoldX.pass avs (i + 1) (fun b k hk hb => hpass b _ (by simp) hb) (fun b k j hk hb => hpass b _ (by intro y; simp; omega) hb) xs es2 (.inl fun b hb => Cz.turn_ok.2 hb) hrest
            · cases hb
        | _ =>
          simp only [backP, Option.some.injEq, Prod.mk.injEq] at hb
          refine none_back rfl hb.1.symm hb.2.symm ?_
          unfold expArg at he0
          simp only at he0
          split at he0
          · simp only [Option.some.injEq, Prod.mk.injEq] at he0
            exact ⟨_, _, he0.1.symm⟩
          · cases he0

end Go.TM

/- The tree machine, part 26: a call, from end to end (II). -/
namespace Go.TM
open Go Go.RowKit

def turnRes (d : Nat) : Lb → Lb
  | .pres j => .sp d j
  | l => l
theorem turnRes_turns (d : Nat) : Turns (turnRes d) := ⟨fun l h => by cases l <;> simp [turnRes, Lb.real] at h ⊢⟩

theorem arrsOfOV_append : (os ps : List OV) → arrsOfOV (os ++ ps) = arrsOfOV os ++ arrsOfOV ps
  | [], ps => rfl
  | o :: os, ps => by simp [arrsOfOV, arrsOfOV_append os ps]

theorem arrsOfOV_length : (os : List OV) → (arrsOfOV os).length = os.length
  | [] => rfl
  | o :: os => by simp [arrsOfOV, arrsOfOV_length os]

theorem cell_one (d g j : Nat) (o : OV) : ∃ x, cellOfOV d g j [o] = [x] := by
  cases o <;> exact ⟨_, rfl⟩

/-- An answer's values at a slot. -/
theorem HoldR.vals {c : Cz} {w : World} : (rs : List RV) → (j : Nat) → (vs : List Value) → HoldR c w j rs vs →
    ∃ lcs : Nat → Loc, (∀ k A, nth (arrsOfOV (rs.flatMap RV.ovs)) k = some (some A) → ∃ v, OwnAt c w (.pres (j + k)) (lcs (j + k)) A v) ∧ rs.length = vs.length ∧ (∀ d g, (vsOfRVs d g j rs).length = rs.length) ∧
      ∀ (c2 : Cz) (st2 : St) (d g : Nat), (∀ b, c.ok b → c2.ok b) → (∀ k, k < (rs.flatMap RV.ovs).length → c2.lc d (j + k) = lcs (j + k)) → (∀ k A, k < (rs.flatMap RV.ovs).length → arr? st2 d (j + k) g = some A → nth (arrsOfOV (rs.flatMap RV.ovs)) k = some (some A)) → g ≤ genA st2 d →
        ∀ (k : Nat) (x : V) (v : Value), (vsOfRVs d g j rs)[k]? = some x → vs[k]? = some v → RelV1 c2 st2 w x v
  | [], j, vs, h => by
    subst h
    exact ⟨fun _ => .nil, fun k A hA => by simp [arrsOfOV] at hA, rfl, fun _ _ => rfl, fun _ _ _ _ _ _ _ _ k x v hx => by simp [vsOfRVs] at hx⟩
  | r :: rs, j, vs, h => by
    obtain ⟨v, l, us, rfl, hL, hR, hV⟩ : ∃ (v : Value) (l us : List Value), vs = v :: l ∧ HoldL c w .pres j r.ovs us ∧ HoldR c w (j + r.ovs.length) rs l ∧
        (∀ (c2 : Cz) (st2 : St) (d g : Nat), RelL c2 st2 w (cellOfOV d g j r.ovs) us → RelV1 c2 st2 w (vOfRV d g j r) v) := by
      cases r with
      | one o =>
        obtain ⟨v, l, h1, h2, h3⟩ := h
        refine ⟨v, l, [v], h1, h2, h3, fun c2 st2 d g hl => ?_⟩
        unfold vOfRV
        obtain ⟨x, hx⟩ := cell_one d g j o
        show RelV1 c2 st2 w (match cellOfOV d g j [o] with | [c] => .one c | _ => .one .bad) v
        have hl : RelL c2 st2 w (cellOfOV d g j [o]) [v] := hl
        rw [hx] at hl ⊢
        exact hl.2 0 x v rfl rfl
      | agg os =>
        obtain ⟨us, l, h1, h2, h3⟩ := h
        exact ⟨.agg us, l, us.toList, h1, h2, h3, fun c2 st2 d g hl => ⟨us, rfl, hl⟩⟩
      | ptr os =>
        obtain ⟨v, l, h1, ⟨blk, us, ty, _, _, _, g4⟩, h3⟩ := h
        exact ⟨v, l, .slice none 0 0 :: us.toList, h1, ⟨_, rfl, g4⟩, h3, fun _ _ _ _ _ => trivial⟩
    obtain ⟨l1, a1, a2⟩ := HoldL.cells r.ovs j us hL
    obtain ⟨l2, b1, b2, b3, b4⟩ := HoldR.vals rs (j + r.ovs.length) l hR
    have hflat : arrsOfOV ((r :: rs).flatMap RV.ovs) = arrsOfOV r.ovs ++ arrsOfOV (rs.flatMap RV.ovs) := by
      rw [List.flatMap_cons, arrsOfOV_append]
    refine ⟨fun k => if k < j + r.ovs.length then l1 k else l2 k, fun k A hA => ?_, by simp [b2], fun d g => by simp [vsOfRVs, b3], fun c2 st2 d g hok hlc harr hg k x v' hx hv' => ?_⟩
    · rw [hflat, nth_append, arrsOfOV_length] at hA
      by_cases e : k < r.ovs.length
      · rw [if_pos e] at hA
        have := a1 k A hA
        show ∃ v, OwnAt c w _ (if j + k < _ then _ else _) A v
        rw [if_pos (by omega)]
        exact this
      · rw [if_neg e] at hA
        have := b1 _ A hA
        rw [show j + r.ovs.length + (k - r.ovs.length) = j + k by omega] at this
        show ∃ v, OwnAt c w _ (if j + k < _ then _ else _) A v
        rw [if_neg (by omega)]
        exact this
    · rw [hflat] at harr
      rw [List.flatMap_cons, List.length_append] at hlc harr
      cases k with
      | zero =>
        simp only [vsOfRVs, List.getElem?_cons_zero, Option.some.injEq] at hx hv'
        subst hx hv'
        refine hV c2 st2 d g (a2 c2 st2 d g hok (fun k hk => ?_) (fun k A hk hA => ?_) hg)
        · have : c2.lc d (j + k) = if j + k < j + r.ovs.length then l1 (j + k) else l2 (j + k) := hlc k (by omega)
          rwa [if_pos (by omega)] at this
        · have := harr k A (by omega) hA
          rwa [nth_append, arrsOfOV_length, if_pos hk] at this
      | succ k =>
        refine b4 c2 st2 d g hok (fun k hk => ?_) (fun k A hk hA => ?_) hg k x v' (by simpa [vsOfRVs] using hx) (by simpa using hv')
        · have : c2.lc d (j + (r.ovs.length + k)) = if j + (r.ovs.length + k) < j + r.ovs.length then l1 (j + (r.ovs.length + k)) else l2 (j + (r.ovs.length + k)) := hlc (r.ovs.length + k) (by omega)
          rw [if_neg (by omega)] at this
          rw [Nat.add_assoc]
          exact this
        · rw [Nat.add_assoc] at hA
          have := harr (r.ovs.length + k) A (by omega) hA
          rwa [nth_append, arrsOfOV_length, if_neg (by omega), Nat.add_sub_cancel_left] at this

def turnPtr (d : Nat) : Lb → Lb
  | .pres 0 => .box d
  | .pres (j + 1) => .sp d (j + 1)
  | l => l
theorem turnPtr_turns (d : Nat) : Turns (turnPtr d) := ⟨fun l h => by
  cases l with
  | pres j => cases j <;> simp [turnPtr, Lb.real] at h ⊢
  | _ => simp [turnPtr, Lb.real] at h ⊢⟩

/-- A new struct behind a pointer, laid at its slot. -/
theorem RelX.laidPtr {X : Lb → Prop} {w0 : World} {mu : Mu} {c : Cz} {st : St} {a : Act} {w : World} (h : RelX X w0 mu c st a w) {d : Nat} {s0 : Sl} {os : List OV} {v : Value} (hs0 : nth st d = some s0)
    (hv : ∃ blk us ty, v = .pointer (some ⟨blk, 0, none⟩) ∧ c.own blk = some (.pres 0) ∧ w.heap[blk]? = some (.cells us ty (0, 0)) ∧ HoldL c w .pres 1 os us.toList) (hd : d < a.tmps.size) :
    ∃ c', RelX X w0 mu c' (upd (fun s => { s with v := .one (.ptr d (s.bg + 1) 0), box := some (cellOfOV d (s.ag + 1) 1 os), bg := s.bg + 1, arrs := none :: arrsOfOV os, ag := s.ag + 1 }) st d) (a.put (some d) v) w := by
  obtain ⟨blk, us, ty, rfl, hown, hheap, hL⟩ := hv
  obtain ⟨lcs, g1, g2⟩ := HoldL.cells os 1 _ hL
  let c' := c.turn (turnPtr d) (fun s => if s = d then blk else c.bx s) (fun s j => if s = d then lcs j else c.lc s j)
  let st' := upd (fun s => { s with v := .one (.ptr d (s.bg + 1) 0), box := some (cellOfOV d (s.ag + 1) 1 os), bg := s.bg + 1, arrs := none :: arrsOfOV os, ag := s.ag + 1 }) st d
  have hn : ∀ s, nth st' s = if s = d then some { s0 with v := .one (.ptr d (s0.bg + 1) 0), box := some (cellOfOV d (s0.ag + 1) 1 os), bg := s0.bg + 1, arrs := none :: arrsOfOV os, ag := s0.ag + 1 } else nth st s := by
    intro s
    show nth (upd _ st d) s = _
    rw [nth_upd]
    by_cases e : s = d
    · subst e; rw [if_pos rfl, if_pos rfl, hs0]; rfl
    · rw [if_neg e, if_neg e]
  have hgen : genA st' d = s0.ag + 1 := by unfold genA; rw [hn]; simp
  have hgen0 : genA st d = s0.ag := by unfold genA; rw [hs0]
  have hgenb : genB st' d = s0.bg + 1 := by unfold genB; rw [hn]; simp
  have hgenb0 : genB st d = s0.bg := by unfold genB; rw [hs0]
  have ht := turnPtr_turns d
  have hfw : Fw c st w c' st' w := {
    stays := stays_turn c w _ _ _
    refs := fun a' j' g' A' hg hA' => by
      obtain ⟨sl, k1, k2, k3⟩ := arr?_some hA'
      rw [hn] at k1
      by_cases e : a' = d
      · rw [if_pos e] at k1
        cases k1
        subst e
        simp only at k2
        omega
      · rw [if_neg e] at k1
        exact ⟨A', arr?_eq k1 k2 k3, rfl, rfl, by show (if a' = d then _ else _) = _; rw [if_neg e]⟩
    bxs := fun b' g' cs' hg hcs' => by
      obtain ⟨sl, k1, k2, k3⟩ := box?_some hcs'
      rw [hn] at k1
      by_cases e : b' = d
      · rw [if_pos e] at k1
        cases k1
        subst e
        simp only at k2
        omega
      · rw [if_neg e] at k1
        exact ⟨⟨cs', by unfold box?; rw [k1]; simp [k2, k3]⟩, by show (if b' = d then _ else _) = _; rw [if_neg e]⟩
    gA := fun a' => by
      by_cases e : a' = d
      · subst e; rw [hgen, hgen0]; omega
      · unfold genA; rw [hn, if_neg e]; exact Nat.le_refl _
    gB := fun a' => by
      by_cases e : a' = d
      · subst e; rw [hgenb, hgenb0]; omega
      · unfold genB; rw [hn, if_neg e]; exact Nat.le_refl _ }
  have harr? : ∀ k A, arr? st' d (1 + k) (s0.ag + 1) = some A → nth (arrsOfOV os) k = some (some A) := by
    intro k A hA
    obtain ⟨sl, k1, k2, k3⟩ := arr?_some hA
    rw [hn, if_pos rfl] at k1
    cases k1
    rw [show 1 + k = k + 1 by omega] at k3
    exact k3
  have hreg : ∀ t, RelV c' st' w (getV st' t) ((a.put (some d) (.pointer (some ⟨blk, 0, none⟩))).eval (.tmp t)) := by
    intro t
    rw [eval_put]
    by_cases e : t = d
    · subst e
      rw [if_pos ⟨rfl, hd⟩]
      have : getV st' t = .one (.ptr t (s0.bg + 1) 0) := by unfold getV; rw [hn, if_pos rfl]
      rw [this]
      refine ⟨rfl, by rw [hgenb]; exact Nat.le_refl _, fun cs _ => ?_⟩
      show _ = Value.pointer (some ⟨(if t = t then blk else c.bx t), 0, none⟩)
      rw [if_pos rfl]
    · rw [if_neg (by rintro ⟨e2, _⟩; exact e (Option.some.inj e2).symm)]
      have : getV st' t = getV st t := by unfold getV; rw [hn, if_neg e]
      rw [this]
      exact hfw.relV (h.regs t)
  refine ⟨c', ⟨hreg, fun s sl cs hX hs hb => ?_, fun s j sl A hX hs hA => ?_, fun b l hb => ?_, fun b hb h1 => h.free b hb (by unfold Cz.ok at *; simpa [c', Cz.turn] using h1), h.kept, h.old, by simpa [Act.put] using h.plain, fun p hp => hfw.anch (h.anch p hp)⟩⟩
  · rw [hn] at hs
    by_cases e : s = d
    · subst e
      rw [if_pos rfl] at hs
      cases hs
      simp only [Option.some.injEq] at hb
      subst hb
      refine ⟨?_, us, ty, by show w.heap[if s = s then blk else c.bx s]? = _; rw [if_pos rfl]; exact hheap, ?_⟩
      · show (c.own (if s = s then blk else c.bx s)).map (turnPtr s) = some (.box s)
        rw [if_pos rfl, hown]
        rfl
      · exact g2 c' st' s (s0.ag + 1) (fun b hb => Cz.turn_ok.2 hb) (fun k _ => by show (if s = s then _ else _) = _; rw [if_pos rfl]) (fun k A _ hA => harr? k A hA) (by rw [hgen]; exact Nat.le_refl _)
    · rw [if_neg e] at hs
      exact (h.boxes s sl cs hX hs hb).turn ht hfw (by show (if s = d then _ else _) = _; rw [if_neg e])
  · rw [hn] at hs
    by_cases e : s = d
    · subst e
      rw [if_pos rfl] at hs
      cases hs
      cases j with
      | zero => simp [nth] at hA
      | succ j =>
        obtain ⟨v', hv'⟩ := g1 j A hA
        rw [show 1 + j = j + 1 by omega] at hv'
        exact hv'.arr (by simp) (by simp [turnPtr])
    · rw [if_neg e] at hs
      exact (h.arrs s j sl A hX hs hA).turn ht (by simp [e])
  · simp only [c', Cz.turn, Option.map_eq_some_iff] at hb
    obtain ⟨k, hk, e⟩ := hb
    obtain ⟨h1, h2⟩ := h.owned b k hk
    refine ⟨h1, h2.imp (fun e2 => ?_) id⟩
    subst e2
    rw [← e]
    rfl

theorem layRes_other {st : St} {d : Nat} {outs : List RV} (h : ∀ os, outs ≠ [.ptr os]) : layRes st (some d) outs = match nth st d with
    | some s => some (upd (fun sl => { sl with v := (match vsOfRVs d (s.ag + 1) 0 outs with | [v] => v | vs => .tup vs), arrs := arrsOfOV (outs.flatMap RV.ovs), ag := s.ag + 1 }) st d)
    | none => none := by
  unfold layRes
  simp only
  cases nth st d with
  | none => rfl
  | some s =>
    cases outs with
    | nil => rfl
    | cons r l => cases l with
      | cons _ _ => cases r <;> rfl
      | nil => cases r with
        | one o => rfl
        | agg os => rfl
        | ptr os => exact absurd rfl (h os)

/-- An answer, laid at its slot. -/
theorem RelX.laid {X : Lb → Prop} {w0 : World} {mu : Mu} {c : Cz} {st : St} {a : Act} {w : World} (h : RelX X w0 mu c st a w) {d : Option Nat} {outs : List RV} {v : Value} (hv : HoldV c w outs v) {st' : St} (hl : layRes st d outs = some st') (hd : ∀ k, d = some k → k < a.tmps.size) :
    ∃ c', RelX X w0 mu c' st' (a.put d v) w := by
  cases d with
  | none =>
    cases outs with
    | nil =>
      simp only [layRes, Option.some.injEq] at hl
      subst hl
      exact ⟨c, h⟩
    | cons _ _ => simp [layRes] at hl
  | some d =>
    by_cases hp : ∃ os, outs = [.ptr os]
    · obtain ⟨os, rfl⟩ := hp
      unfold layRes at hl
      simp only at hl
      cases hs0 : nth st d with
      | none => simp [hs0] at hl
      | some s0 =>
        simp only [hs0, Option.some.injEq] at hl
        subst hl
        refine h.laidPtr hs0 ?_ (hd d rfl)
        rcases hv with ⟨r, h1, h2⟩ | ⟨h1, _⟩
        · simp only [List.cons.injEq, and_true] at h1
          subst h1
          obtain ⟨v', l, e1, h3, _⟩ := h2
          simp only [List.cons.injEq] at e1
          rw [e1.1]
          exact h3
        · exact absurd rfl h1
    rw [layRes_other (fun os e => hp ⟨os, e⟩)] at hl
    cases hs0 : nth st d with
    | none => simp [hs0] at hl
    | some s0 =>
      simp only [hs0, Option.some.injEq] at hl
      obtain ⟨vs, hR, hVV⟩ : ∃ vs, HoldR c w 0 outs vs ∧ ∀ (c2 : Cz) (st2 : St) (g : Nat), (vsOfRVs d g 0 outs).length = vs.length → (∀ (k : Nat) (x : V) (u : Value), (vsOfRVs d g 0 outs)[k]? = some x → vs[k]? = some u → RelV1 c2 st2 w x u) →
          RelV c2 st2 w (match vsOfRVs d g 0 outs with | [v] => v | vs => .tup vs) v := by
        rcases hv with ⟨r, rfl, h2⟩ | ⟨h1, vs, rfl, h2⟩
        · refine ⟨[v], h2, fun c2 st2 g hlen hrel => ?_⟩
          exact relV_of1 (hrel 0 _ v rfl rfl)
        · refine ⟨vs.toList, h2, fun c2 st2 g hlen hrel => ?_⟩
          have tupled : RelV c2 st2 w (.tup (vsOfRVs d g 0 outs)) (.tuple vs) := ⟨vs, rfl, by simpa using hlen, fun i x y hx hy => hrel i x y hx (by simpa using hy)⟩
          split
          · rename_i x hx
            obtain ⟨_, _, _, b3, _⟩ := HoldR.vals outs 0 vs.toList h2
            have := b3 d g
            rw [hx] at this
            exact absurd this.symm h1
          · exact tupled
      obtain ⟨lcs, g1, g2, g3, g4⟩ := HoldR.vals outs 0 vs hR
      let c' := c.turn (turnRes d) c.bx (fun s j => if s = d then lcs j else c.lc s j)
      let V0 := (match vsOfRVs d (s0.ag + 1) 0 outs with | [v] => v | vs => .tup vs)
      have hn : ∀ s, nth st' s = if s = d then some { s0 with v := V0, arrs := arrsOfOV (outs.flatMap RV.ovs), ag := s0.ag + 1 } else nth st s := by
        intro s
        rw [← hl, nth_upd]
        by_cases e : s = d
        · subst e; rw [if_pos rfl, if_pos rfl, hs0]; rfl
        · rw [if_neg e, if_neg e]
      have hgen : genA st' d = s0.ag + 1 := by unfold genA; rw [hn]; simp
      have hgen0 : genA st d = s0.ag := by unfold genA; rw [hs0]
      have ht := turnRes_turns d
      have hfw : Fw c st w c' st' w := {
        stays := stays_turn c w _ _ _
        refs := fun a' j' g' A' hg hA' => by
          obtain ⟨sl, k1, k2, k3⟩ := arr?_some hA'
          rw [hn] at k1
          by_cases e : a' = d
          · rw [if_pos e] at k1
            cases k1
            subst e
            simp only at k2
            omega
          · rw [if_neg e] at k1
            exact ⟨A', arr?_eq k1 k2 k3, rfl, rfl, by show (if a' = d then _ else _) = _; rw [if_neg e]⟩
        bxs := fun b' g' cs' hg hcs' => by
          obtain ⟨sl, k1, k2, k3⟩ := box?_some hcs'
          rw [hn] at k1
          by_cases e : b' = d
          · rw [if_pos e] at k1
            cases k1
            subst e
            exact ⟨⟨cs', by unfold box?; rw [hs0]; simp at k2 k3; simp [k2, k3]⟩, rfl⟩
          · rw [if_neg e] at k1
            exact ⟨⟨cs', by unfold box?; rw [k1]; simp [k2, k3]⟩, rfl⟩
        gA := fun a' => by
          by_cases e : a' = d
          · subst e; rw [hgen, hgen0]; omega
          · unfold genA; rw [hn, if_neg e]; exact Nat.le_refl _
        gB := fun a' => by
          by_cases e : a' = d
          · subst e; unfold genB; rw [hn, if_pos rfl, hs0]; exact Nat.le_refl _
          · unfold genB; rw [hn, if_neg e]; exact Nat.le_refl _ }
      have harr? : ∀ k A, arr? st' d k (s0.ag + 1) = some A → nth (arrsOfOV (outs.flatMap RV.ovs)) k = some (some A) := by
        intro k A hA
        obtain ⟨sl, k1, k2, k3⟩ := arr?_some hA
        rw [hn, if_pos rfl] at k1
        cases k1
        exact k3
      have hreg : ∀ t, RelV c' st' w (getV st' t) ((a.put (some d) v).eval (.tmp t)) := by
        intro t
        rw [eval_put]
        by_cases e : t = d
        · subst e
          rw [if_pos ⟨rfl, hd t rfl⟩]
          have : getV st' t = V0 := by unfold getV; rw [hn, if_pos rfl]
          rw [this]
          refine hVV c' st' (s0.ag + 1) (by rw [g3, g2]) (g4 c' st' t (s0.ag + 1) (fun b hb => Cz.turn_ok.2 hb) (fun k _ => ?_) (fun k A _ hA => harr? k A (by simpa using hA)) (by rw [hgen]; exact Nat.le_refl _))
          show (if t = t then _ else _) = _
          rw [if_pos rfl]
        · rw [if_neg (by rintro ⟨e2, _⟩; exact e (Option.some.inj e2).symm)]
          have : getV st' t = getV st t := by unfold getV; rw [hn, if_neg e]
          rw [this]
          exact hfw.relV (h.regs t)
      -- the act is turned first
      refine ⟨c', ⟨hreg, fun s sl cs hX hs hb => ?_, fun s j sl A hX hs hA => ?_, fun b l hb => ?_, fun b hb h1 => h.free b hb (by unfold Cz.ok at *; simpa [c', Cz.turn] using h1), h.kept, h.old, by simpa [Act.put] using h.plain, fun p hp => hfw.anch (h.anch p hp)⟩⟩
      · rw [hn] at hs
        by_cases e : s = d
        · subst e
          rw [if_pos rfl] at hs
          cases hs
          exact (h.boxes s s0 cs hX hs0 hb).turn ht hfw rfl
        · rw [if_neg e] at hs
          exact (h.boxes s sl cs hX hs hb).turn ht hfw rfl
      · rw [hn] at hs
        by_cases e : s = d
        · subst e
          rw [if_pos rfl] at hs
          cases hs
          obtain ⟨v', hv'⟩ := g1 j A hA
          exact hv'.arr (by simp) (by simp [turnRes])
        · rw [if_neg e] at hs
          exact (h.arrs s j sl A hX hs hA).turn ht (by simp [e])
      · simp only [c', Cz.turn, Option.map_eq_some_iff] at hb
        obtain ⟨k, hk, e⟩ := hb
        obtain ⟨h1, h2⟩ := h.owned b k hk
        refine ⟨h1, h2.imp (fun e2 => ?_) id⟩
        subst e2
        rw [← e]
        rfl

end Go.TM

/- The tree machine, part 27: a call, from end to end (III). -/
namespace Go.TM
open Go Go.RowKit

theorem expL_lent {st : St} {own : Bool} : (cs : List CV) → {os : List OV} → {u : List (Option Lb)} → {r : List (Nat × Nat)} → expL st own cs = some (os, u, r) → ∀ l ∈ somes u, l ∈ cs.filterMap fun x => match x with | .ref a j _ _ => some (Lb.sp a j) | _ => none
  | [], _, _, _, h => by
    simp only [expL, Option.some.injEq, Prod.mk.injEq] at h
    obtain ⟨_, rfl, _⟩ := h
    simp [somes]
  | x :: cs, os, u, r, h => by
    unfold expL at h
    cases hc : expC st own x with
    | none => simp [hc] at h
    | some p =>
      obtain ⟨o, u1, r1⟩ := p
      cases hq : expL st own cs with
      | none => simp [hc, hq] at h
      | some q =>
        obtain ⟨os', us, rs⟩ := q
        simp only [hc, hq, Option.some.injEq, Prod.mk.injEq] at h
        obtain ⟨_, rfl, _⟩ := h
        intro l hl
        rw [mem_somes] at hl
        rcases List.mem_cons.1 hl with hl | hl
        · refine List.mem_filterMap.2 ⟨x, List.mem_cons_self, ?_⟩
          cases x with
          | ref a j g w =>
            unfold expC at hc
            simp only at hc
            cases hA : arr? st a j g with
            | none => simp [hA] at hc
            | some A =>
              simp only [hA] at hc
              cases hb : (own && A.own) <;> simp only [hb, cond_true, cond_false, Option.some.injEq, Prod.mk.injEq] at hc <;> obtain ⟨_, rfl, _⟩ := hc
              · cases hl
              · exact hl.symm
          | _ =>
            simp only [expC, Option.some.injEq, Prod.mk.injEq, reduceCtorEq] at hc
            all_goals (obtain ⟨_, rfl, _⟩ := hc; cases hl)
        · have := expL_lent cs hq l (mem_somes.2 hl)
          obtain ⟨y, h1, h2⟩ := List.mem_filterMap.1 this
          exact List.mem_filterMap.2 ⟨y, List.mem_cons_of_mem _ h1, h2⟩

/-- What is handed of an argument is used up, or comes back. -/
theorem expArg_lab {st : St} {m : Pm} {v : V} {av : AV} {u q : List Lb} {r : List (Nat × Nat)} (h : expArg st m v = some (av, u, q, r)) : ∀ l ∈ u, (l ∈ q ∧ ∃ s j, l = .sp s j) ∨ l ∈ exLb m v := by
  have single : ∀ own cs, (match expL st own cs with | some (os, u, r) => some (AV.val false os, somes u, somes u, r) | none => none) = some (av, u, q, r) → ∀ l ∈ u, (l ∈ q ∧ ∃ s j, l = .sp s j) ∨ l ∈ exLb m v := by
    intro own cs h
    cases hq : expL st own cs with
    | none => simp [hq] at h
    | some p =>
      obtain ⟨os, us, rs⟩ := p
      simp only [hq, Option.some.injEq, Prod.mk.injEq] at h
      obtain ⟨_, rfl, rfl, _⟩ := h
      exact fun l hl => .inl ⟨hl, expL_sp cs hq l hl⟩
  cases v with
  | tup _ => simp [expArg] at h
  | agg cs =>
    have other : (match expL st m.isOwn cs with | some (os, u, r) => some (AV.val true os, somes u, somes u, r) | none => none) = some (av, u, q, r) → ∀ l ∈ u, (l ∈ q ∧ ∃ s j, l = .sp s j) ∨ l ∈ exLb m (.agg cs) := by
      intro h
      cases hq : expL st m.isOwn cs with
      | none => simp [hq] at h
      | some p =>
        obtain ⟨os, us, rs⟩ := p
        simp only [hq, Option.some.injEq, Prod.mk.injEq] at h
        obtain ⟨_, rfl, rfl, _⟩ := h
        exact fun l hl => .inl ⟨hl, expL_sp cs hq l hl⟩
    unfold expArg at h
    cases m with
    | shr => exact other h
    | own => exact other h
    | io => exact other h
    | lend =>
      simp only at h
      cases hq : expL st true cs with
      | none => simp [hq] at h
      | some p =>
        obtain ⟨os, us, rs⟩ := p
        simp only [hq] at h
        obtain ⟨_, h1⟩ := bif_some h
        simp only [Option.some.injEq, Prod.mk.injEq] at h1
        obtain ⟨_, rfl, _, _⟩ := h1
        exact fun l hl => .inr (expL_lent cs hq l hl)
  | one cx =>
    cases cx with
    | ptr b g off =>
      unfold expArg at h
      simp only at h
      cases hb : box? st b g with
      | none => simp [hb] at h
      | some cs =>
        simp only [hb] at h
        cases hq : expL st true cs with
        | none => simp [hq] at h
        | some p =>
          obtain ⟨os, us, rs⟩ := p
          simp only [hq] at h
          obtain ⟨_, h1⟩ := bif_some h
          simp only [Option.some.injEq, Prod.mk.injEq] at h1
          obtain ⟨_, rfl, rfl, _⟩ := h1
          intro l hl
          rcases List.mem_cons.1 hl with rfl | hl
          · exact .inr (by simp [exLb])
          · exact .inl ⟨hl, expL_sp cs hq l hl⟩
    | ref s j g vw =>
      unfold expArg at h
      cases m with
      | shr => exact single _ _ h
      | own => exact single _ _ h
      | lend => exact single _ _ h
      | io =>
        cases vw with
        | full =>
          cases hA : arr? st s j g with
          | none => simp [hA] at h
          | some A =>
            simp only [hA] at h
            obtain ⟨_, h1⟩ := bif_some h
            simp only [Option.some.injEq, Prod.mk.injEq] at h1
            obtain ⟨_, rfl, _, _⟩ := h1
            exact fun l hl => .inr (by simpa [exLb] using hl)
        | «from» _ => simp at h
        | sub _ _ => simp at h
    | _ =>
      unfold expArg at h
      simp only at h
      split at h
      · rename_i os us rs hq
        simp only [Option.some.injEq, Prod.mk.injEq] at h
        obtain ⟨_, rfl, rfl, _⟩ := h
        exact fun l hl => .inl ⟨hl, expL_sp _ hq l hl⟩
      · cases h

theorem expAll_lab {st : St} : (ms : List (Pm × V)) → {avs : List AV} → {u q : List Lb} → {r : List (Nat × Nat)} → expAll st ms = some (avs, u, q, r) → ∀ l ∈ u, (l ∈ q ∧ ∃ s j, l = .sp s j) ∨ ∃ m ∈ ms, l ∈ exLb m.1 m.2
  | [], _, _, _, _, h => by
    simp only [expAll, Option.some.injEq, Prod.mk.injEq] at h
    obtain ⟨_, rfl, _⟩ := h
    simp
  | (m, v) :: ms, avs, u, q, r, h => by
    unfold expAll at h
    cases h1 : expArg st m v with
    | none => simp [h1] at h
    | some p1 =>
      obtain ⟨av, u1, q1, r1⟩ := p1
      cases h2 : expAll st ms with
      | none => simp [h1, h2] at h
      | some p2 =>
        obtain ⟨avs', u2, q2, r2⟩ := p2
        simp only [h1, h2, Option.some.injEq, Prod.mk.injEq] at h
        obtain ⟨rfl, rfl, rfl, rfl⟩ := h
        intro l hl
        rcases List.mem_append.1 hl with hl | hl
        · rcases expArg_lab h1 l hl with ⟨h3, h4⟩ | h3
          · exact .inl ⟨List.mem_append_left _ h3, h4⟩
          · exact .inr ⟨(m, v), List.mem_cons_self, h3⟩
        · rcases expAll_lab ms h2 l hl with ⟨h3, h4⟩ | ⟨m', h3, h4⟩
          · exact .inl ⟨List.mem_append_right _ h3, h4⟩
          · exact .inr ⟨m', List.mem_cons_of_mem _ h3, h4⟩

theorem expAll_each {st : St} : (ms : List (Pm × V)) → {avs : List AV} → {u q : List Lb} → {r : List (Nat × Nat)} → expAll st ms = some (avs, u, q, r) → ∀ (k : Nat) (m : Pm × V) (av : AV), ms[k]? = some m → avs[k]? = some av → ExpOk st m av
  | [], _, _, _, _, _ => by intro k m av hm; simp at hm
  | (m, v) :: ms, avs, u, q, r, h => by
    unfold expAll at h
    cases h1 : expArg st m v with
    | none => simp [h1] at h
    | some p1 =>
      obtain ⟨av, u1, q1, r1⟩ := p1
      cases h2 : expAll st ms with
      | none => simp [h1, h2] at h
      | some p2 =>
        obtain ⟨avs', u2, q2, r2⟩ := p2
        simp only [h1, h2, Option.some.injEq, Prod.mk.injEq] at h
        obtain ⟨rfl, rfl, rfl, rfl⟩ := h
        intro k m' av' hm hav
        cases k with
        | zero => simp at hm hav; subst hm hav; exact ⟨u1, q1, r1, h1⟩
        | succ k => exact expAll_each ms h2 k m' av' (by simpa using hm) (by simpa using hav)

theorem modes_snd (a b c : Pm) (l : List V) : (modes a b c l).map (·.2) = l := by
  rcases l with _ | ⟨x, _ | ⟨y, _ | ⟨z, l⟩⟩⟩ <;> simp [modes, Function.comp_def]

theorem Cz.drop_keep' : (m : List (Nat × Nat)) → (c : Cz) → {b : Nat} → {l : Lb} → c.own b = some l → (∀ p ∈ m, l ≠ .sp p.1 p.2) → (c.drop m).own b = some l
  | [], _, _, _, h, _ => h
  | (s, j) :: m, c, b, l, h, hm => Cz.drop_keep' m (c.drop1 s j) (Cz.drop1_keep h (hm (s, j) List.mem_cons_self)) (fun p hp => hm p (List.mem_cons_of_mem _ hp))

/-- What is known of the functions that are called. -/
def SemsOk (P : Program) (S : Sems) : Prop :=
  ∀ f a b c sem, S f = some (a, b, c, sem) → FnOk P f sem ∧ ∃ fn, P.funcs[f]? = some fn ∧ (fn.name == "runtime.NumGoroutine") = false ∧ fn.body.isNone = false

theorem callN_ok {P : Program} {S : Sems} (hS : SemsOk P S) {w0 : World} {mu : Mu} {c : Cz} {st st' : St} {a : Act} {w : World} (h : Rel w0 mu c st a w) {o : Oper} {f : FuncId} {args : Array Operand} {tys : Array TypeId} (ho : o.op = .call { callee := .value (.func f), args := args, argTypes := tys })
    (hv : (callN S st o.dst f (args.toList.map (opd st))).val = some st') (hd : ∀ k, o.dst = some k → k < a.tmps.size) : StepK P w0 mu st' o a w (kindOk S st o .one) := by
  have hq0 : kindOk S st o .one = quietArgs S st f (args.toList.map (opd st)) := by unfold kindOk; simp only [ho]
  rw [hq0]
  clear hq0
  unfold quietArgs
  unfold callN at hv
  cases hf : S f with
  | none => simp [hf, N.val] at hv
  | some p =>
    obtain ⟨m1, m2, m3, sem⟩ := p
    simp only [hf] at hv ⊢
    obtain ⟨hfn, fn, hfn1, hfn2, hfn3⟩ := hS f m1 m2 m3 sem hf
    have hsnd := modes_snd m1 m2 m3 (args.toList.map (opd st))
    generalize modes m1 m2 m3 (args.toList.map (opd st)) = ms at hv hsnd ⊢
    cases he : expAll st ms with
    | none => simp [he, N.val] at hv
    | some p =>
      obtain ⟨avs, u, q, r⟩ := p
      simp only [he] at hv ⊢
      obtain ⟨hc, hv⟩ := bifN_some hv
      rw [Bool.and_eq_true] at hc
      cases hs : sem avs with
      | none => simp [hs, N.val] at hv
      | some p =>
        simp only [hs] at hv
        cases hox : p.o with
        | none => rw [hox] at hv; cases hv
        | some x =>
        rw [hox] at hv
        have hv2 := hv
        clear hv
        unfold N.val at hv2
        simp only at hv2
        generalize hres : p.res x = res at hv2
        cases hbk : backAll (killAll (bif res.plain then st else freeze st r) q) ms res.exts with
        | none => simp [hbk, N.val] at hv2
        | some st1 =>
          simp only [hbk] at hv2
          cases hly : layRes st1 o.dst res.outs with
          | none => simp [hly, N.val] at hv2
          | some st2 =>
            simp only [hly, N.val, Option.some.injEq] at hv2
            subst hv2
            -- the arguments
            have hlen : ms.length = (args.map a.eval).toList.length := by
              have := congrArg List.length hsnd
              simpa using this
            have hrel : ∀ (k : Nat) (m : Pm × V) (x : Value), ms[k]? = some m → (args.map a.eval).toList[k]? = some x → RelV c st w m.2 x := by
              intro k m x hm hx
              have h1 : (ms.map (·.2))[k]? = some m.2 := by rw [List.getElem?_map, hm]; rfl
              rw [hsnd, List.getElem?_map] at h1
              rw [Array.toList_map, List.getElem?_map] at hx
              cases hy : args.toList[k]? with
              | none => rw [hy] at h1; simp at h1
              | some y =>
                rw [hy] at h1 hx
                simp only [Option.map_some, Option.some.injEq] at h1 hx
                rw [← h1, ← hx]
                exact opd_rel h y
            obtain ⟨hreal, hqu, tb, htb1, htb2, havs, hold⟩ := expAll_ok h ms 0 _ hlen hrel he
            have hnd := noTwice_nodup u hreal hc.1
            have hap : ∀ p ∈ r, Lb.sp p.1 p.2 ∉ u := by
              intro p hp hm
              have h1 := List.all_eq_true.1 hc.2 p hp
              have h2 := List.all_eq_true.1 h1 _ hm
              rw [(Lb.same_iff rfl).2 rfl] at h2
              cases h2
            let lc : Nat → Nat → Loc := fun k => match ms[k]? with | some m => locOf c m.2 | none => fun _ => .nil
            have hcl := Classical.propDecidable
            let ρ : Lb → Option Lb := fun l => match look tb l with | some y => some y | none => if (∃ p ∈ r, l = .sp p.1 p.2) then none else some .out
            have hlook : ∀ {l y}, look tb l = some y → l ∈ u ∧ y.handed = true := by
              intro l y hl
              have := look_some tb hl
              exact ⟨by rw [← htb1]; exact List.mem_map.2 ⟨_, this, rfl⟩, htb2 _ this⟩
            have hρr : ∀ p ∈ r, ρ (.sp p.1 p.2) = none := by
              intro p hp
              show (match look tb (.sp p.1 p.2) with | some y => some y | none => if (∃ p' ∈ r, Lb.sp p.1 p.2 = .sp p'.1 p'.2) then none else some .out) = none
              cases hl : look tb (.sp p.1 p.2) with
              | some y => exact absurd (hlook hl).1 (hap p hp)
              | none => simp only; rw [if_pos ⟨p, hp, rfl⟩]
            have hρt : ∀ p ∈ tb, ρ p.1 = some p.2 := by
              intro p hp
              have := look_mem tb (by rw [htb1]; exact hnd) hp
              show (match look tb p.1 with | some y => some y | none => _) = _
              rw [this]
            have hρh : ∀ {l y}, ρ l = some y → y = .out ∨ (y.handed = true ∧ l ∈ u) := by
              intro l y hl
              have hl : (match look tb l with | some y => some y | none => if (∃ p ∈ r, l = .sp p.1 p.2) then none else some .out) = some y := hl
              cases hk : look tb l with
              | some z =>
                rw [hk] at hl
                cases hl
                exact .inr ⟨(hlook hk).2, (hlook hk).1⟩
              | none =>
                rw [hk] at hl
                simp only at hl
                split at hl
                · cases hl
                · cases hl; exact .inl rfl
            have hρn : ∀ {l}, ρ l = none → ∃ p ∈ r, l = .sp p.1 p.2 := by
              intro l hl
              have hl : (match look tb l with | some y => some y | none => if (∃ p ∈ r, l = .sp p.1 p.2) then none else some .out) = none := hl
              cases hk : look tb l with
              | some z => rw [hk] at hl; cases hl
              | none =>
                rw [hk] at hl
                simp only at hl
                split at hl
                · assumption
                · cases hl
            let μ : Mu := { m := fun b => ∃ l, (c.map ρ).own b = some l ∧ l.handed = true, ok := fun b => (c.map ρ).own b = none, an := [] }
            have hH : Handed (c.map ρ) w μ := {
              m := fun b => Iff.rfl
              ok := fun b => Iff.rfl
              lt := fun b l hb => by
                obtain ⟨k, hk, _⟩ := Cz.map_some hb
                exact (h.owned b k hk).1
              lb := fun b l hb => by
                obtain ⟨k, hk, e⟩ := Cz.map_some hb
                exact (hρh e).imp id (·.1) }
            have hA := hold ρ lc (fun k m hm => by simp only [Nat.zero_add, lc, hm]) hρt hρr
            have hcall := hfn (c.map ρ) w μ lc avs (args.map a.eval) p x hH hA hs hox
            rw [hres] at hcall
            -- the run
            have hrun : (execOp a.eval o).run P w = .ok (.enter f (args.map a.eval)) w := by
              simp only [execOp, ho]
              have q2 : fn.name ≠ "runtime.NumGoroutine" := by simpa using hfn2
              have q3 : fn.body ≠ none := by intro e; rw [e] at hfn3; cases hfn3
              simp [resolve, Act.eval, Deferred.ofValue, invoke, callFunc, Sem.run_bind, hfn1, q2, q3]
            intro Q
            unfold Oper.wp
            rw [hrun, Oper.upon_enter]
            refine hcall.mono fun e w' hpost => ?_
            obtain ⟨v, rfl, c1, hbas, hV, hX⟩ := hpost
            -- who reads what
            obtain ⟨c2, s2, hs2, hR2, hF2, hm2, hok2⟩ : ∃ (c2 : Cz) (s2 : St), (bif res.plain then st else freeze st r) = s2 ∧ Rel w0 mu c2 s2 a w ∧ Fw c st w c2 s2 w ∧ (∀ b, μ.m b → ∃ l, c2.own b = some l ∧ l ∈ u) ∧ (res.plain = true ∨ ∀ b, μ.ok b → c2.own b = none) := by
              have hm : ∀ b, μ.m b → ∃ l, c.own b = some l ∧ l ∈ u := by
                rintro b ⟨l, hl, hh⟩
                obtain ⟨k, hk, e⟩ := Cz.map_some hl
                rcases hρh e with e2 | e2
                · subst e2; cases hh
                · exact ⟨k, hk, e2.2⟩
              cases hp : res.plain with
              | true => exact ⟨c, st, rfl, h, Fw.refl c st w, hm, .inl rfl⟩
              | false =>
                refine ⟨c.drop r, freeze st r, rfl, Rel.freeze r h, Fw.freeze w r c st, fun b hb => ?_, .inr fun b hb => ?_⟩
                · obtain ⟨l, h1, h2⟩ := hm b hb
                  exact ⟨l, Cz.drop_keep' r c h1 (fun p hp e => hap p hp (e ▸ h2)), h2⟩
                · have hb : (c.own b).bind ρ = none := hb
                  cases hk : c.own b with
                  | none => exact Cz.drop_ok r c b hk
                  | some l =>
                    rw [hk] at hb
                    obtain ⟨p, hp, e⟩ := hρn hb
                    subst e
                    exact Cz.drop_sp r c b hk hp
            rw [hs2] at hbk
            obtain ⟨g1, g2, g3, g4⟩ := hR2.moved hbas (X := fun l => l ∈ u) hm2 (fun l hl e => by subst e; cases hreal _ hl)
            have hok' : (∀ b, c1.ok b → (c2.merge c1 w.heap.size μ.m).ok b) ∨ res.plain = true := by
              rcases hok2 with h1 | h1
              · exact .inr h1
              · exact .inl (g4 h1)
            have hplain : res.plain = true → res.outs.all (fun o => o.ovs.all OV.plain) = true ∧ res.exts.all XV.plain = true := by
              intro hp
              unfold Res.plain at hp
              rwa [Bool.and_eq_true] at hp
            have hV' : HoldV (c2.merge c1 w.heap.size μ.m) w' res.outs v := hV.pass (fun b j => g3 b (.pres j) rfl) (hok'.imp id fun hp => (hplain hp).1)
            have hX' : HoldX (c2.merge c1 w.heap.size μ.m) w' lc 0 avs (args.map a.eval).toList res.exts := HoldX.pass avs 0 (fun b k _ => g3 b (.pbox k) rfl) (fun b k j _ => g3 b (.pend k j) rfl) _ _ (hok'.imp id fun hp => (hplain hp).2) hX
            -- what is used up goes
            obtain ⟨c3, k1, k2, k3⟩ := killAll_ok q g1
            have hok3 : ∀ b, (c2.merge c1 w.heap.size μ.m).ok b → c3.ok b := fun b hb => by unfold Cz.ok at *; rw [k3]; exact hb
            have hV3 : HoldV c3 w' res.outs v := hV'.pass (fun b j hb => by rw [k3]; exact hb) (.inl hok3)
            have hX3 : HoldX c3 w' lc 0 avs (args.map a.eval).toList res.exts := HoldX.pass avs 0 (fun b k _ hb => by rw [k3]; exact hb) (fun b k j _ hb => by rw [k3]; exact hb) _ _ (.inl hok3) hX'
            -- what was lent comes back
            obtain ⟨c4, l1, l2, l3⟩ := backAll_ok ms 0 avs _ _ k1 ((hF2.trans g2).trans k2) hrel (expAll_each ms he) havs.symm hlen (fun k m hm => by simp only [Nat.zero_add, lc, hm]) hX3 hbk
            have hV4 : HoldV c4 w' res.outs v := hV3.pass (fun b j => l3.pend b (.pres j) ⟨j, rfl⟩) (.inl l3.ok)
            obtain ⟨c5, n1⟩ := l1.laid hV4 hly hd
            refine ⟨⟨c5, (n1.mono (X' := fun _ => False) (fun l hl => ?_)).rel, put_size _ _ _⟩, fun hkp => ⟨hbas.kept.2.2.2, fun k hk => hbas.old k hk (fun hmu => ?_)⟩⟩
            case refine_2 =>
              have hu0 : u = [] := by simpa using hkp
              obtain ⟨_, _, hin⟩ := hm2 k hmu
              rw [hu0] at hin
              cases hin
            obtain ⟨⟨hl1, hl2⟩, hl3⟩ := hl
            rcases expAll_lab ms he l hl1 with ⟨h1, s, j, e⟩ | ⟨m, h1, h2⟩
            · subst e
              exact hl2 s j h1 rfl
            · exact hl3 m h1 h2

/-- All operations. -/
theorem opSound {P : Program} {T : Tab} (hT : TabOk P T) (hE : EqOk P T) {S : Sems} (hS : SemsOk P S) (w0 : World) (mu : Mu) (n : Nat) : OpSound P T S w0 mu n := by
  intro c st st' a w o h hn hd hv
  have hd' : ∀ k, o.dst = some k → k < a.tmps.size := fun k hk => by rw [hn]; exact hd k hk
  by_cases hf : Op.isFn o.op = true
  · cases ho : o.op with
    | call cl =>
      obtain ⟨callee, args, tys⟩ := cl
      cases callee with
      | value x =>
        cases x with
        | func f =>
          unfold opN at hv
          simp only [ho] at hv
          exact callN_ok hS h ho hv hd'
        | _ => rw [ho] at hf; simp [Op.isFn] at hf
      | _ => rw [ho] at hf; simp [Op.isFn] at hf
    | _ => rw [ho] at hf; simp [Op.isFn] at hf
  · exact opN_ok hT hE h (by simpa using hf) hv hd'

end Go.TM

/- The tree machine, part 28: patterns of what stands in slots, and their data. -/
namespace Go.TM
open Go Go.RowKit

inductive OP where
  | int (k : IntKind)
  | bool
  | str
  | own (r : RT)
  | shr (r : RT)
/-- 'io': a lent array; 'box': a struct behind a pointer ('true': lent by the caller). -/
inductive AP where
  | val (agg : Bool) (ps : List OP)
  | io (r : RT)
  | box (lent : Bool) (ps : List OP)
  | lend (ps : List OP)

def OP.ty : OP → Ty
  | .int k => .int k
  | .bool => .bool
  | .str => .str
  | .own r => .sl r
  | .shr r => .sl r
def OP.isOwn : OP → Bool
  | .own _ => true
  | _ => false

def opsRT : List OP → RT → RT
  | [], t => t
  | p :: ps, t => .cons p.ty (opsRT ps t)
def AP.rt : AP → RT → RT
  | .val _ ps, t => opsRT ps t
  | .io r, t => .cons (.sl r) t
  | .box _ ps, t => opsRT ps t
  | .lend ps, t => opsRT ps t
def headRT : List (Option AP) → RT
  | [] => .nil
  | none :: l => headRT l
  | some p :: l => p.rt (headRT l)

/-! ### Data to values -/
def OP.ov : (p : OP) → den p.ty → OV
  | .int k, n => .int k n
  | .bool, b => .bool b
  | .str, s => .str s
  | .own r, xs => .own { r := r, own := true, xs := xs }
  | .shr r, xs => .shr r xs

def opsOV : (ps : List OP) → (t : RT) → denR (opsRT ps t) → List OV × denR t
  | [], _, x => ([], x)
  | p :: ps, t, x => (p.ov x.1 :: (opsOV ps t x.2).1, (opsOV ps t x.2).2)

def AP.av : (p : AP) → (t : RT) → denR (p.rt t) → AV × denR t
  | .val agg ps, t, x => (.val agg (opsOV ps t x).1, (opsOV ps t x).2)
  | .io r, _, x => (.io { r := r, own := true, xs := x.1 }, x.2)
  | .box _ ps, t, x => (.box (opsOV ps t x).1, (opsOV ps t x).2)
  | .lend ps, t, x => (.lend (opsOV ps t x).1, (opsOV ps t x).2)

def heads : (l : List (Option AP)) → denR (headRT l) → List (Option AV)
  | [], _ => []
  | none :: l, x => none :: heads l x
  | some p :: l, x => some (p.av (headRT l) x).1 :: heads l (p.av (headRT l) x).2

/-! ### Values to data -/
def castO : (p : OP) → OV → Option (den p.ty)
  | .int k, .int l n => if k = l then some n else none
  | .bool, .bool b => some b
  | .str, .str s => some s
  | .own r, .own A => castL r A.xs
  | .own _, .nils => some ([] : List _)
  | .shr r, .shr _ xs => castL r xs
  | .shr _, .nils => some ([] : List _)
  | _, _ => none

def castOs : (ps : List OP) → (t : RT) → List OV → denR t → Option (denR (opsRT ps t))
  | [], _, [], y => some y
  | p :: ps, t, o :: os, y => match castO p o, castOs ps t os y with
    | some x, some z => some (x, z)
    | _, _ => none
  | _, _, _, _ => none

def castA : (p : AP) → (t : RT) → AV → denR t → Option (denR (p.rt t))
  | .val true ps, t, .val true os, y => castOs ps t os y
  | .val false ps, t, .val false os, y => castOs ps t os y
  | .io r, _, .io A, y => match castL r A.xs with
    | some xs => some (xs, y)
    | none => none
  | .box _ ps, t, .box os, y => castOs ps t os y
  | .lend ps, t, .lend os, y => castOs ps t os y
  | _, _, _, _ => none

def castAs : (l : List AP) → List AV → Option (denR (headRT (l.map some)))
  | [], [] => some ()
  | p :: l, a :: as => match castAs l as with
    | some y => castA p (headRT (l.map some)) a y
    | none => none
  | _, _ => none

/-- Out of a state's cells. -/
def packL (st : St) : (ps : List OP) → (t : RT) → List CV → denR t → Option (denR (opsRT ps t) × List (Option Lb) × List (Nat × Nat))
  | [], _, [], y => some (y, [], [])
  | p :: ps, t, c :: cs, y => match expC st p.isOwn c, packL st ps t cs y with
    | some (o, u, r), some (z, us, rs) => match castO p o with
      | some x => some ((x, z), u :: us, r ++ rs)
      | none => none
    | _, _ => none
  | _, _, _, _ => none

def packA (st : St) (k : Nat) : (p : AP) → (t : RT) → V → denR t → Option (denR (p.rt t) × List Lb × List (Nat × Nat))
  | .val agg ps, t, v, y =>
    match agg, v with
    | true, .agg cs => (packL st ps t cs y).map fun q => (q.1, somes q.2.1, q.2.2)
    | false, .one c => (packL st ps t [c] y).map fun q => (q.1, somes q.2.1, q.2.2)
    | _, _ => none
  | .io r, _, v, y =>
    match v with
    | .one (.ref a j g .full) => bif Nat.beq a k && (Nat.beq j 0 && Nat.beq g 1) then ((arr? st a j g).bind fun A => bif A.own then (castL r A.xs).map fun xs => ((xs, y), [.sp a j], []) else none) else none
    | _ => none
  | .box lent ps, t, v, y =>
    match v with
    | .one (.ptr b g off) => bif Nat.beq off 0 && (!lent || (Nat.beq b k && Nat.beq g 1)) then ((box? st b g).bind fun cs => (packL st ps t cs y).map fun q => (q.1, .box b :: somes q.2.1, q.2.2)) else none
    | _ => none
  | .lend _, _, _, _ => none

def packHead (st : St) : (k : Nat) → (l : List (Option AP)) → Option (denR (headRT l) × List Lb × List (Nat × Nat))
  | _, [] => some ((), [], [])
  | k, none :: l => packHead st (k + 1) l
  | k, some p :: l => match packHead st (k + 1) l with
    | some (y, us, rs) => match packA st k p (headRT l) (getV st k) y with
      | some (x, u, r) => some (x, u ++ us, r ++ rs)
      | none => none
    | none => none

/-! ### Slots -/
def Sl.blank : Sl := { v := .one .bad, box := .none, bg := 1, arrs := [], ag := 1 }

def slotOf (k : Nat) : Option AV → Sl
  | none => Sl.blank
  | some (.lend os) => { v := .agg (cellOfOV k 1 0 os), box := none, bg := 1, arrs := arrsOfOV os, ag := 1 }
  | some (.val true os) => { v := .agg (cellOfOV k 1 0 os), box := none, bg := 1, arrs := arrsOfOV os, ag := 1 }
  | some (.val false os) => { v := match cellOfOV k 1 0 os with | [c] => .one c | _ => .one .bad, box := none, bg := 1, arrs := arrsOfOV os, ag := 1 }
  | some (.io A) => { v := .one (.ref k 0 1 .full), box := none, bg := 1, arrs := [some A], ag := 1 }
  | some (.box os) => { v := .one (.ptr k 1 0), box := some (cellOfOV k 1 0 os), bg := 1, arrs := arrsOfOV os, ag := 1 }

def slots : (k : Nat) → List (Option AV) → St
  | _, [] => []
  | k, a :: l => slotOf k a :: slots (k + 1) l

theorem nth_slots : (l : List (Option AV)) → (k i : Nat) → nth (slots k l) i = (l[i]?).map (slotOf (k + i))
  | [], _, _ => by simp [slots]
  | a :: l, k, 0 => by simp [slots, nth]
  | a :: l, k, i + 1 => by
    simp only [slots, nth, List.getElem?_cons_succ]
    rw [nth_slots l (k + 1) i, show k + 1 + i = k + (i + 1) by omega]

/-! ### Data are the values that they came from -/
theorem castO_ok {c : Cz} {w : World} {f : Nat → Lb} {j : Nat} : (p : OP) → (o : OV) → (x : den p.ty) → castO p o = some x → {os os' : List OV} → {vs : List Value} → (∀ l, HoldL c w f (j + 1) os l → HoldL c w f (j + 1) os' l) → HoldL c w f j (o :: os) vs → HoldL c w f j (p.ov x :: os') vs
  | .int k, .int l n, x, hx, os, os', vs, hos, h => by
    have hx : (if k = l then some (n : Int) else none) = some (x : Int) := hx
    by_cases e : k = l
    · rw [if_pos e] at hx
      have hx : n = x := Option.some.inj hx
      obtain ⟨l', h1, h2⟩ := h
      exact ⟨l', by rw [h1, e, hx], hos _ h2⟩
    · rw [if_neg e] at hx
      cases hx
  | .bool, .bool b, x, hx, os, os', vs, hos, h => by
    have hx : b = x := Option.some.inj hx
    subst hx
    obtain ⟨l', h1, h2⟩ := h
    exact ⟨l', h1, hos _ h2⟩
  | .str, .str b, x, hx, os, os', vs, hos, h => by
    have hx : b = x := Option.some.inj hx
    subst hx
    obtain ⟨l', h1, h2⟩ := h
    exact ⟨l', h1, hos _ h2⟩
  | .own r, .own A, x, hx, os, os', vs, hos, h => by
    obtain ⟨v, l', h1, ⟨lc, h2⟩, h3⟩ := h
    have hx : castL r A.xs = some x := hx
    obtain ⟨e, rfl⟩ := castL_some hx
    obtain ⟨r0, own0, xs0⟩ := A
    simp only at e
    subst e
    have ho : own0 = true := h2.2.2.1
    subst ho
    exact ⟨v, l', h1, ⟨lc, h2⟩, hos _ h3⟩
  | .own r, .nils, x, hx, os, os', vs, hos, h => by
    have hx : ([] : List (denR r)) = x := Option.some.inj hx
    subst hx
    obtain ⟨l', h1, h2⟩ := h
    exact ⟨_, l', h1, ⟨.nil, rfl, ⟨rfl, rfl⟩, rfl, rfl⟩, hos _ h2⟩
  | .shr r, .shr q xs, x, hx, os, os', vs, hos, h => by
    obtain ⟨v, l', h1, h2, h3⟩ := h
    have hx : castL r xs = some x := hx
    obtain ⟨e, rfl⟩ := castL_some hx
    subst e
    exact ⟨v, l', h1, h2, hos _ h3⟩
  | .shr r, .nils, x, hx, os, os', vs, hos, h => by
    have hx : ([] : List (denR r)) = x := Option.some.inj hx
    subst hx
    obtain ⟨l', h1, h2⟩ := h
    exact ⟨_, l', h1, (repSl _ _ _ _ _).2 (.inl ⟨rfl, rfl⟩), hos _ h2⟩
  | .int _, .bool _, _, hx, _, _, _, _, _ => by cases hx
  | .int _, .str _, _, hx, _, _, _, _, _ => by cases hx
  | .int _, .own _, _, hx, _, _, _, _, _ => by cases hx
  | .int _, .shr _ _, _, hx, _, _, _, _, _ => by cases hx
  | .int _, .nils, _, hx, _, _, _, _, _ => by cases hx
  | .bool, .int _ _, _, hx, _, _, _, _, _ => by cases hx
  | .bool, .str _, _, hx, _, _, _, _, _ => by cases hx
  | .bool, .own _, _, hx, _, _, _, _, _ => by cases hx
  | .bool, .shr _ _, _, hx, _, _, _, _, _ => by cases hx
  | .bool, .nils, _, hx, _, _, _, _, _ => by cases hx
  | .str, .int _ _, _, hx, _, _, _, _, _ => by cases hx
  | .str, .bool _, _, hx, _, _, _, _, _ => by cases hx
  | .str, .own _, _, hx, _, _, _, _, _ => by cases hx
  | .str, .shr _ _, _, hx, _, _, _, _, _ => by cases hx
  | .str, .nils, _, hx, _, _, _, _, _ => by cases hx
  | .own _, .int _ _, _, hx, _, _, _, _, _ => by cases hx
  | .own _, .bool _, _, hx, _, _, _, _, _ => by cases hx
  | .own _, .str _, _, hx, _, _, _, _, _ => by cases hx
  | .own _, .shr _ _, _, hx, _, _, _, _, _ => by cases hx
  | .shr _, .int _ _, _, hx, _, _, _, _, _ => by cases hx
  | .shr _, .bool _, _, hx, _, _, _, _, _ => by cases hx
  | .shr _, .str _, _, hx, _, _, _, _, _ => by cases hx
  | .shr _, .own _, _, hx, _, _, _, _, _ => by cases hx

theorem castOs_ok {c : Cz} {w : World} {f : Nat → Lb} : (ps : List OP) → (t : RT) → (os : List OV) → (y : denR t) → {x : denR (opsRT ps t)} → castOs ps t os y = some x → (opsOV ps t x).2 = y ∧ ∀ (j : Nat) (vs : List Value), HoldL c w f j os vs → HoldL c w f j (opsOV ps t x).1 vs
  | [], t, [], y, x, h => by
    have h : y = x := Option.some.inj h
    subst h
    exact ⟨rfl, fun _ _ h => h⟩
  | [], _, _ :: _, _, _, h => by simp [castOs] at h
  | _ :: _, _, [], _, _, h => by simp [castOs] at h
  | p :: ps, t, o :: os, y, x, h => by
    unfold castOs at h
    cases h1 : castO p o with
    | none => simp [h1] at h
    | some a =>
      cases h2 : castOs ps t os y with
      | none => simp [h1, h2] at h
      | some z =>
        simp only [h1, h2] at h
        have h : (a, z) = x := Option.some.inj h
        subst h
        obtain ⟨g1, g2⟩ := castOs_ok (c := c) (w := w) (f := f) ps t os y h2
        exact ⟨g1, fun j vs hh => castO_ok p o a h1 (fun l => g2 (j + 1) l) hh⟩

/-- One cell of many. -/
theorem HoldL.nthc {c : Cz} {w : World} {f : Nat → Lb} : (os : List OV) → (j : Nat) → (vs : List Value) → HoldL c w f j os vs → vs.length = os.length ∧ ∀ (k : Nat) (o : OV) (u : Value), os[k]? = some o → vs[k]? = some u → HoldL c w f (j + k) [o] [u]
  | [], j, vs, h => by
    subst h
    exact ⟨rfl, fun k o u h => by simp at h⟩
  | o :: os, j, vs, h => by
    obtain ⟨v, l, rfl, h1, h2⟩ : ∃ v l, vs = v :: l ∧ HoldL c w f j [o] [v] ∧ HoldL c w f (j + 1) os l := by
      cases o with
      | int k n => obtain ⟨l, h1, h2⟩ := h; exact ⟨_, l, h1, ⟨[], rfl, rfl⟩, h2⟩
      | bool b => obtain ⟨l, h1, h2⟩ := h; exact ⟨_, l, h1, ⟨[], rfl, rfl⟩, h2⟩
      | str b => obtain ⟨l, h1, h2⟩ := h; exact ⟨_, l, h1, ⟨[], rfl, rfl⟩, h2⟩
      | nils => obtain ⟨l, h1, h2⟩ := h; exact ⟨_, l, h1, ⟨[], rfl, rfl⟩, h2⟩
      | shr r xs => obtain ⟨v, l, h1, h2, h3⟩ := h; exact ⟨v, l, h1, ⟨v, [], rfl, h2, rfl⟩, h3⟩
      | own A => obtain ⟨v, l, h1, h2, h3⟩ := h; exact ⟨v, l, h1, ⟨v, [], rfl, h2, rfl⟩, h3⟩
    obtain ⟨g1, g2⟩ := HoldL.nthc os (j + 1) l h2
    refine ⟨by simp [g1], fun k o' u ho hu => ?_⟩
    cases k with
    | zero =>
      simp only [List.getElem?_cons_zero, Option.some.injEq] at ho hu
      subst ho hu
      exact h1
    | succ k =>
      have := g2 k o' u (by simpa using ho) (by simpa using hu)
      rwa [show j + 1 + k = j + (k + 1) by omega] at this

theorem castOs_at : (ps : List OP) → (t : RT) → (os : List OV) → (y : denR t) → {x : denR (opsRT ps t)} → castOs ps t os y = some x → ∀ (k : Nat) (o' : OV), (opsOV ps t x).1[k]? = some o' → ∃ (p : OP) (o : OV) (z : den p.ty), os[k]? = some o ∧ castO p o = some z ∧ o' = p.ov z
  | [], t, [], y, x, h => by
    intro k o' hk
    simp [opsOV] at hk
  | [], _, _ :: _, _, _, h => by simp [castOs] at h
  | _ :: _, _, [], _, _, h => by simp [castOs] at h
  | p :: ps, t, o :: os, y, x, h => by
    unfold castOs at h
    cases h1 : castO p o with
    | none => simp [h1] at h
    | some a =>
      cases h2 : castOs ps t os y with
      | none => simp [h1, h2] at h
      | some z =>
        simp only [h1, h2] at h
        have h : (a, z) = x := Option.some.inj h
        subst h
        intro k o' hk
        cases k with
        | zero =>
          have hk : some (p.ov a) = some o' := hk
          simp only [Option.some.injEq] at hk
          exact ⟨p, o, a, rfl, h1, hk.symm⟩
        | succ k =>
          have hk : (opsOV ps t z).1[k]? = some o' := hk
          obtain ⟨p', o1, z', q1, q2, q3⟩ := castOs_at ps t os y h2 k o' hk
          exact ⟨p', o1, z', by simpa using q1, q2, q3⟩

theorem castO_own {p : OP} {o : OV} {z : den p.ty} (h : castO p o = some z) {A : Arr} (he : p.ov z = .own A) : (∃ B, o = .own B ∧ A.r = B.r ∧ A.own = true ∧ A.xs.length = B.xs.length ∧ (B.own = true → A = B)) ∨ (o = .nils ∧ ∃ r, A = { r := r, own := true, xs := ([] : List (denR r)) }) := by
  cases p with
  | own r =>
    injection he with he
    subst he
    cases o with
    | own B =>
      have h : castL r B.xs = some z := h
      obtain ⟨e, rfl⟩ := castL_some h
      obtain ⟨r0, own0, xs0⟩ := B
      simp only at e
      subst e
      exact .inl ⟨_, rfl, rfl, rfl, rfl, fun ho => by simp only at ho; subst ho; rfl⟩
    | nils =>
      have h : ([] : List (denR r)) = z := Option.some.inj h
      subst h
      exact .inr ⟨rfl, r, rfl⟩
    | _ => cases h
  | int _ => cases he
  | bool => cases he
  | str => cases he
  | shr _ => cases he
theorem castO_nonil {p : OP} (z : den p.ty) : p.ov z ≠ .nils := by
  cases p <;> (intro h; cases h)

theorem castA_ok {c : Cz} {w : World} {i : Nat} {lc : Nat → Loc} {p : AP} {t : RT} {av : AV} {y : denR t} {x : denR (p.rt t)} (h : castA p t av y = some x) : (p.av t x).2 = y ∧ ∀ v, HoldA c w i lc av v → HoldA c w i lc (p.av t x).1 v := by
  cases p with
  | val agg ps =>
    cases agg with
    | true =>
      cases av with
      | val agg' os =>
        cases agg' with
        | true =>
          have h : castOs ps t os y = some x := h
          obtain ⟨g1, g2⟩ := castOs_ok (c := c) (w := w) (f := .pend i) ps t os y h
          exact ⟨g1, fun v ⟨vs, hv, hl⟩ => ⟨vs, hv, g2 0 _ hl⟩⟩
        | false => cases h
      | _ => cases h
    | false =>
      cases av with
      | val agg' os =>
        cases agg' with
        | false =>
          have h : castOs ps t os y = some x := h
          obtain ⟨g1, g2⟩ := castOs_ok (c := c) (w := w) (f := .pend i) ps t os y h
          exact ⟨g1, fun v hl => g2 0 _ hl⟩
        | true => cases h
      | _ => cases h
  | io r =>
    cases av with
    | io A =>
      have h : (match castL r A.xs with | some xs => some ((xs, y) : denR (.cons (.sl r) t)) | none => none) = some x := h
      cases hc : castL r A.xs with
      | none => rw [hc] at h; cases h
      | some xs =>
        rw [hc] at h
        cases h
        refine ⟨rfl, fun v hl => ?_⟩
        obtain ⟨e, rfl⟩ := castL_some hc
        obtain ⟨r0, own0, xs0⟩ := A
        simp only at e
        subst e
        have ho : own0 = true := hl.2.2.1
        subst ho
        exact hl
    | _ => cases h
  | box lent ps =>
    cases av with
    | box os =>
      have h : castOs ps t os y = some x := h
      obtain ⟨g1, g2⟩ := castOs_ok (c := c) (w := w) (f := .pend i) ps t os y h
      exact ⟨g1, fun v ⟨blk, vs, ty, q1, q2, q3, q4⟩ => ⟨blk, vs, ty, q1, q2, q3, g2 0 _ q4⟩⟩
    | _ => cases h
  | lend ps =>
    cases av with
    | lend os =>
      have h : castOs ps t os y = some x := h
      obtain ⟨g1, g2⟩ := castOs_ok (c := c) (w := w) (f := .pend i) ps t os y h
      refine ⟨g1, fun v ⟨vs, q1, q2, q3⟩ => ⟨vs, q1, g2 0 _ q2, fun j o u ho hu => ?_⟩⟩
      obtain ⟨p, o0, z, k1, k2, rfl⟩ := castOs_at ps t os y h j o ho
      have h0 := q3 j o0 u k1 hu
      have hL := (HoldL.nthc os 0 _ q2).2 j o0 u k1 hu
      unfold LocAt at h0 ⊢
      cases he : p.ov z with
      | nils => exact absurd he (castO_nonil z)
      | own A =>
        rcases castO_own k2 he with ⟨B, rfl, e1, e2, e3, e4⟩ | ⟨rfl, r, rfl⟩
        · have h0 : OwnAt c w (.pend i j) (lc j) B u := h0
          have := e4 h0.2.2.1
          subst this
          exact h0
        · have h0 : lc j = .nil := h0
          obtain ⟨l, hl, _⟩ := hL
          injection hl with hl _
          subst hl
          show OwnAt c w (.pend i j) (lc j) _ _
          rw [h0]
          exact ⟨rfl, ⟨rfl, rfl⟩, rfl, rfl⟩
      | _ => trivial
    | _ => cases h

end Go.TM

/- The tree machine, part 29: a state from scratch. -/
namespace Go.TM
open Go Go.RowKit

theorem packL_ok {w0 : World} {mu : Mu} {c : Cz} {st : St} {a : Act} {w : World} (h : Rel w0 mu c st a w) {ρ : Lb → Option Lb} {f : Nat → Lb} : (ps : List OP) → (t : RT) → (cs : List CV) → (y : denR t) → (vs : List Value) → (j : Nat) → RelL c st w cs vs → {x : denR (opsRT ps t)} → {u : List (Option Lb)} → {r : List (Nat × Nat)} →
    packL st ps t cs y = some (x, u, r) → (opsOV ps t x).2 = y ∧ (∀ l ∈ somes u, l.real = true) ∧ ((∀ k l, nth u k = some (some l) → ρ l = some (f (j + k))) → (∀ p ∈ r, ρ (.sp p.1 p.2) = none) → HoldL (c.map ρ) w f j (opsOV ps t x).1 vs)
  | [], t, [], y, vs, j, hl, x, u, r, he => by
    have he : some (y, ([] : List (Option Lb)), ([] : List (Nat × Nat))) = some (x, u, r) := he
    injection he with he
    injection he with e1 e2
    injection e2 with e2 e3
    subst e1 e2 e3
    have := hl.1
    simp at this
    exact ⟨rfl, by simp [somes], fun _ _ => List.length_eq_zero_iff.1 this.symm⟩
  | [], t, _ :: _, y, vs, j, hl, x, u, r, he => by simp [packL] at he
  | _ :: _, t, [], y, vs, j, hl, x, u, r, he => by simp [packL] at he
  | p :: ps, t, cx :: cs, y, vs, j, hl, x, u, r, he => by
    obtain ⟨v, l, rfl, hx, hl'⟩ := hl.cons'
    unfold packL at he
    cases hc : expC st p.isOwn cx with
    | none => simp [hc] at he
    | some q1 =>
      obtain ⟨o, u1, r1⟩ := q1
      cases hq : packL st ps t cs y with
      | none => simp [hc, hq] at he
      | some q2 =>
        obtain ⟨z, us, rs⟩ := q2
        simp only [hc, hq] at he
        cases ho : castO p o with
        | none => simp [ho] at he
        | some a1 =>
          simp only [ho] at he
          injection he with he
          injection he with e1 e2
          injection e2 with e2 e3
          subst e1 e2 e3
          obtain ⟨g1, g2, g3⟩ := packL_ok h (ρ := ρ) (f := f) ps t cs y l (j + 1) hl' hq
          refine ⟨g1, fun l' hm => ?_, fun hu hr => ?_⟩
          · rw [mem_somes] at hm
            rcases List.mem_cons.1 hm with hm | hm
            · obtain ⟨s, k, rfl⟩ := expC_real hc l' hm.symm
              rfl
            · exact g2 l' (mem_somes.2 hm)
          · have hrest := g3 (fun k' l' hk => by
              have := hu (k' + 1) l' hk
              rwa [show j + (k' + 1) = j + 1 + k' by omega] at this) (fun p hp => hr p (List.mem_append_right _ hp))
            have h1 := expC_ok h (f := f) (j := j) hx hc (fun l' hl' => hu 0 l' (by rw [hl']; rfl)) (fun p hp => hr p (List.mem_append_left _ hp)) hrest
            exact castO_ok p o a1 ho (fun _ h => h) h1

/-- What stands in slots k, k + 1, .. -/
def HoldSlots (c : Cz) (w : World) (lc : Nat → Nat → Loc) (a : Act) (k : Nat) (l : List (Option AV)) : Prop :=
  ∀ i av, l[i]? = some (some av) → HoldA c w (k + i) (lc (k + i)) av (a.eval (.tmp (k + i)))

theorem packA_ok {w0 : World} {mu : Mu} {c : Cz} {st : St} {a : Act} {w : World} (h : Rel w0 mu c st a w) (k : Nat) {p : AP} {t : RT} {V : V} {y : denR t} {v : Value} (hV : RelV c st w V v) {x : denR (p.rt t)} {u : List Lb} {r : List (Nat × Nat)} (he : packA st k p t V y = some (x, u, r)) :
    (p.av t x).2 = y ∧ (∀ l ∈ u, l.real = true) ∧ ∃ tb : List (Lb × Lb), tb.map (·.1) = u ∧ (∀ p ∈ tb, p.2.handed = true) ∧ ∀ ρ : Lb → Option Lb, (∀ p ∈ tb, ρ p.1 = some p.2) → (∀ p ∈ r, ρ (.sp p.1 p.2) = none) → HoldA (c.map ρ) w k (c.lc k) (p.av t x).1 v := by
  have vals : ∀ (ps : List OP) (cs : List CV) (x : denR (opsRT ps t)) (us : List (Option Lb)) (rs : List (Nat × Nat)) (vs : List Value), RelL c st w cs vs → packL st ps t cs y = some (x, us, rs) → (opsOV ps t x).2 = y ∧ (∀ l ∈ somes us, l.real = true) ∧
      ∀ ρ : Lb → Option Lb, (∀ p ∈ numb (.pend k) 0 us, ρ p.1 = some p.2) → (∀ p ∈ rs, ρ (.sp p.1 p.2) = none) → HoldL (c.map ρ) w (.pend k) 0 (opsOV ps t x).1 vs := by
    intro ps cs x us rs vs hl hq
    refine ⟨(packL_ok h (ρ := fun _ => none) (f := .pend k) ps t cs y vs 0 hl hq).1, (packL_ok h (ρ := fun _ => none) (f := .pend k) ps t cs y vs 0 hl hq).2.1, fun ρ hp hr => (packL_ok h (ρ := ρ) (f := .pend k) ps t cs y vs 0 hl hq).2.2 (fun k' l hk => ?_) hr⟩
    have := hp _ (numb_get (.pend k) 0 us k' l hk)
    simpa using this
  cases p with
  | val agg ps =>
    cases agg with
    | true =>
      cases V with
      | agg cs =>
        have he : (packL st ps t cs y).map (fun q => (q.1, somes q.2.1, q.2.2)) = some (x, u, r) := he
        cases hq : packL st ps t cs y with
        | none => rw [hq] at he; cases he
        | some q =>
          obtain ⟨z, us, rs⟩ := q
          rw [hq] at he
          injection he with he
          injection he with e1 e2
          injection e2 with e2 e3
          subst e1 e2 e3
          obtain ⟨vs, rfl, hl⟩ := hV
          obtain ⟨g1, g2, g3⟩ := vals _ _ _ _ _ _ hl hq
          exact ⟨g1, g2, tabArg k (.val true []) [] us, tabArg_fst _ _ _ _, tabArg_snd _ _ _ _, fun ρ hp hr => ⟨vs, rfl, g3 ρ (fun p hp' => hp p (by simpa [tabArg] using hp')) hr⟩⟩
      | one _ => cases he
      | tup _ => cases he
    | false =>
      cases V with
      | one cx =>
        have he : (packL st ps t [cx] y).map (fun q => (q.1, somes q.2.1, q.2.2)) = some (x, u, r) := he
        cases hq : packL st ps t [cx] y with
        | none => rw [hq] at he; cases he
        | some q =>
          obtain ⟨z, us, rs⟩ := q
          rw [hq] at he
          injection he with he
          injection he with e1 e2
          injection e2 with e2 e3
          subst e1 e2 e3
          obtain ⟨g1, g2, g3⟩ := vals _ _ _ _ _ [v] ⟨rfl, fun k y z hy hz => by
            cases k with
            | zero => simp at hy hz; subst hy hz; exact hV
            | succ k => simp at hy⟩ hq
          exact ⟨g1, g2, tabArg k (.val true []) [] us, tabArg_fst _ _ _ _, tabArg_snd _ _ _ _, fun ρ hp hr => g3 ρ (fun p hp' => hp p (by simpa [tabArg] using hp')) hr⟩
      | agg _ => cases he
      | tup _ => cases he
  | io rr =>
    cases V with
    | one cx =>
      cases cx with
      | ref s j g vw =>
        cases vw with
        | full =>
          have he : (bif Nat.beq s k && (Nat.beq j 0 && Nat.beq g 1) then ((arr? st s j g).bind fun A => bif A.own then (castL rr A.xs).map fun xs => ((xs, y), [Lb.sp s j], ([] : List (Nat × Nat))) else none) else none) = some (x, u, r) := he
          obtain ⟨h1, he1⟩ := bif_some he
          clear he
          rw [Bool.and_eq_true, Bool.and_eq_true] at h1
          have e1 := Nat.eq_of_beq_eq_true h1.1
          have e2 := Nat.eq_of_beq_eq_true h1.2.1
          subst e1 e2
          cases hA : arr? st s 0 g with
          | none => rw [hA] at he1; cases he1
          | some A =>
            rw [hA] at he1
            obtain ⟨ho, he2⟩ := bif_some he1
            cases hc : castL rr A.xs with
            | none => rw [hc] at he2; cases he2
            | some xs =>
              rw [hc] at he2
              injection he2 with he2
              injection he2 with e1 e2
              injection e2 with e2 e3
              subst e1 e2 e3
              refine ⟨rfl, by simp [Lb.real], [(.sp s 0, .pend s 0)], rfl, by simp [Lb.handed], fun ρ hp _ => ?_⟩
              have ha := rel_arr h hA
              have hs := hV.2.2 A hA
              have hρ : ρ (.sp s 0) = some (.pend s 0) := hp (.sp s 0, .pend s 0) (by simp)
              obtain ⟨e, rfl⟩ := castL_some hc
              obtain ⟨r0, own0, xs0⟩ := A
              simp only at e
              subst e
              have ho : own0 = true := ho
              subst ho
              refine ⟨hV.1, hs, rfl, ?_⟩
              unfold ArrOk at ha
              cases hlc : c.lc s 0 with
              | nil => rw [hlc] at ha; exact ha
              | «at» b off cap =>
                rw [hlc] at ha
                obtain ⟨h0, h2, h3, h4⟩ := ha
                exact ⟨(Cz.map_own h0).trans hρ, h2, h3, fun i x hi => RepR.stays ⟨Nat.le_refl _, fun _ _ _ => rfl, fun b _ hb => Cz.map_ok hb⟩ _ _ _ x rfl (h4 i x hi)⟩
        | «from» _ => cases he
        | sub _ _ => cases he
      | _ => cases he
    | agg _ => cases he
    | tup _ => cases he
  | box lent ps =>
    cases V with
    | one cx =>
      cases cx with
      | ptr b g off =>
        have he : (bif Nat.beq off 0 && (!lent || (Nat.beq b k && Nat.beq g 1)) then ((box? st b g).bind fun cs => (packL st ps t cs y).map fun q => (q.1, Lb.box b :: somes q.2.1, q.2.2)) else none) = some (x, u, r) := he
        obtain ⟨h1, he1⟩ := bif_some he
        clear he
        rw [Bool.and_eq_true] at h1
        have e1 := Nat.eq_of_beq_eq_true h1.1
        subst e1
        cases hb : box? st b g with
        | none => rw [hb] at he1; cases he1
        | some cs =>
          rw [hb] at he1
          simp only [Option.bind_some] at he1
          cases hq : packL st ps t cs y with
          | none => rw [hq] at he1; cases he1
          | some q =>
            obtain ⟨z, us, rs⟩ := q
            rw [hq] at he1
            injection he1 with he1
            injection he1 with e1 e2
            injection e2 with e2 e3
            subst e1 e2 e3
            obtain ⟨sl, k1, k2, k3⟩ := box?_some hb
            obtain ⟨h1, vs, ty, h2, h3⟩ := h.boxes b sl cs k1 k3
            obtain ⟨g1, g2, g3⟩ := vals _ _ _ _ _ _ h3 hq
            refine ⟨g1, fun l hl => ?_, tabArg k (.box []) [.box b] us, by rw [tabArg_fst]; rfl, tabArg_snd _ _ _ _, fun ρ hp hr => ⟨c.bx b, vs, ty, hV.2.2 cs hb, ?_, h2, g3 ρ (fun p hp' => hp p (List.mem_append_right _ hp')) hr⟩⟩
            · rcases List.mem_cons.1 hl with rfl | hl
              · rfl
              · exact g2 l hl
            · exact (Cz.map_own h1).trans (hp (.box b, .pbox k) (by simp [tabArg]))
      | _ => cases he
    | agg _ => cases he
    | tup _ => cases he
  | lend ps => cases he

theorem packHead_ok {w0 : World} {mu : Mu} {c : Cz} {st : St} {a : Act} {w : World} (h : Rel w0 mu c st a w) : (l : List (Option AP)) → (k : Nat) → {x : denR (headRT l)} → {u : List Lb} → {r : List (Nat × Nat)} → packHead st k l = some (x, u, r) →
    (∀ l ∈ u, l.real = true) ∧ ∃ tb : List (Lb × Lb), tb.map (·.1) = u ∧ (∀ p ∈ tb, p.2.handed = true) ∧ ∀ ρ : Lb → Option Lb, (∀ p ∈ tb, ρ p.1 = some p.2) → (∀ p ∈ r, ρ (.sp p.1 p.2) = none) → HoldSlots (c.map ρ) w c.lc a k (heads l x)
  | [], k, x, u, r, he => by
    have he : some ((), ([] : List Lb), ([] : List (Nat × Nat))) = some (x, u, r) := he
    injection he with he
    injection he with _ e2
    injection e2 with e2 e3
    subst e2 e3
    exact ⟨by simp, [], rfl, by simp, fun ρ _ _ i av hi => by simp [heads] at hi⟩
  | none :: l, k, x, u, r, he => by
    obtain ⟨g1, tb, g2, g3, g4⟩ := packHead_ok h l (k + 1) he
    refine ⟨g1, tb, g2, g3, fun ρ hp hr i av hi => ?_⟩
    cases i with
    | zero => simp [heads] at hi
    | succ i =>
      have := g4 ρ hp hr i av (by simpa [heads] using hi)
      rwa [show k + 1 + i = k + (i + 1) by omega] at this
  | some p :: l, k, x, u, r, he => by
    unfold packHead at he
    cases h1 : packHead st (k + 1) l with
    | none => simp [h1] at he
    | some q1 =>
      obtain ⟨y, us, rs⟩ := q1
      simp only [h1] at he
      cases h2 : packA st k p (headRT l) (getV st k) y with
      | none => simp [h2] at he
      | some q2 =>
        obtain ⟨x1, u1, r1⟩ := q2
        simp only [h2] at he
        injection he with he
        injection he with e1 e2
        injection e2 with e2 e3
        subst e1 e2 e3
        obtain ⟨g1, tb, g2, g3, g4⟩ := packHead_ok h l (k + 1) h1
        obtain ⟨a1, a2, ta, a3, a4, a5⟩ := packA_ok h k (h.regs k) h2
        refine ⟨fun l' hl => ?_, ta ++ tb, by simp [a3, g2], fun p hp => ?_, fun ρ hp hr i av hi => ?_⟩
        · rcases List.mem_append.1 hl with hl | hl
          · exact a2 l' hl
          · exact g1 l' hl
        · rcases List.mem_append.1 hp with hp | hp
          · exact a4 p hp
          · exact g3 p hp
        · cases i with
          | zero =>
            have hi : some (some (p.av (headRT l) x1).1) = some (some av) := hi
            simp only [Option.some.injEq] at hi
            subst hi
            exact a5 ρ (fun p hp' => hp p (List.mem_append_left _ hp')) (fun p hp' => hr p (List.mem_append_left _ hp'))
          | succ i =>
            have hi : (heads l (p.av (headRT l) x1).2)[i]? = some (some av) := hi
            rw [a1] at hi
            have := g4 ρ (fun p hp' => hp p (List.mem_append_right _ hp')) (fun p hp' => hr p (List.mem_append_right _ hp')) i av hi
            rwa [show k + 1 + i = k + (i + 1) by omega] at this

end Go.TM

/- The tree machine, part 30: a state from scratch (II). -/
namespace Go.TM
open Go Go.RowKit

/-- Do anchors fit what is to stand in the slots? -/
def AnFits (L : List (Option AV)) (lc : Nat → Nat → Loc) (a : Act) : Anc → Prop
  | .arr i j g W n l => g = 1 ∧ i < L.length ∧ ∀ av, L[i]? = some (some av) → (∃ A, av = .io A ∧ (j = 0 → A.r.width = W ∧ A.xs.length = n ∧ lc i 0 = l)) ∨ ∃ os, av = .lend os ∧ ∀ A, os[j]? = some (.own A) → A.r.width = W ∧ A.xs.length = n ∧ lc i j = l
  | .box i g blk => g = 1 ∧ i < L.length ∧ ∀ os, L[i]? = some (some (.box os)) → a.eval (.tmp i) = .pointer (some ⟨blk, 0, none⟩)

def turnIn : Lb → Lb
  | .pend i j => .sp i j
  | .pbox i => .box i
  | l => l
theorem turnIn_turns : Turns turnIn := ⟨fun l h => by cases l <;> simp [turnIn, Lb.real] at h ⊢⟩

/-- What is known of one slot. -/
structure SlotAt (c : Cz) (w : World) (k : Nat) (av : Option AV) (u : Value) (lio : Nat → Loc) (blk : Nat) (lcs : Nat → Loc) : Prop where
  arr : ∀ j A, nth (slotOf k av).arrs j = some (some A) → ∃ v, OwnAt c w (.pend k j) (lcs j) A v
  reg : ∀ (c2 : Cz) (st2 : St), (∀ b, c.ok b → c2.ok b) → c2.bx k = blk → c2.lc k = lcs → nth st2 k = some (slotOf k av) → RelV c2 st2 w (slotOf k av).v u
  box : ∀ cs, (slotOf k av).box = some cs → u = .pointer (some ⟨blk, 0, none⟩) ∧ c.own blk = some (.pbox k) ∧ ∃ vs ty, w.heap[blk]? = some (.cells vs ty (0, 0)) ∧
    ∀ (c2 : Cz) (st2 : St), (∀ b, c.ok b → c2.ok b) → c2.lc k = lcs → nth st2 k = some (slotOf k av) → RelL c2 st2 w cs vs.toList
  io : ∀ A, av = some (.io A) → lcs 0 = lio 0
  lend : ∀ os, av = some (.lend os) → lcs = lio

theorem arr?_slot {st : St} {k j : Nat} {av : Option AV} {A : Arr} (h : nth st k = some (slotOf k av)) (hA : arr? st k j 1 = some A) : nth (slotOf k av).arrs j = some (some A) := by
  obtain ⟨sl, h1, _, h3⟩ := arr?_some hA
  rw [h] at h1; cases h1
  exact h3

theorem genA_slot {st : St} {k : Nat} {av : Option AV} (h : nth st k = some (slotOf k av)) : genA st k = 1 := by
  unfold genA; rw [h]
  cases av with
  | none => rfl
  | some av => cases av with
    | val agg os => cases agg <;> rfl
    | io A => rfl
    | box os => rfl
    | lend os => rfl
theorem genB_slot {st : St} {k : Nat} {av : Option AV} (h : nth st k = some (slotOf k av)) : genB st k = 1 := by
  unfold genB; rw [h]
  cases av with
  | none => rfl
  | some av => cases av with
    | val agg os => cases agg <;> rfl
    | io A => rfl
    | box os => rfl
    | lend os => rfl

theorem nth_arrs : (os : List OV) → (j : Nat) → {A : Arr} → nth (arrsOfOV os) j = some (some A) → os[j]? = some (.own A)
  | [], _, _, h => by simp [arrsOfOV] at h
  | o :: os, 0, A, h => by
    simp only [arrsOfOV, nth, Option.some.injEq] at h
    cases o with
    | own B => injection h with h; subst h; rfl
    | _ => cases h
  | o :: os, j + 1, A, h => by
    have := nth_arrs os j (A := A) h
    simpa using this

theorem cellOf_at {d g : Nat} : (os : List OV) → (j k : Nat) → (o : OV) → os[k]? = some o → ∃ x, cellOfOV d g (j + k) [o] = [x] ∧ (cellOfOV d g j os)[k]? = some x
  | [], _, _, _, h => by simp at h
  | o :: os, j, 0, o', h => by
    simp only [List.getElem?_cons_zero, Option.some.injEq] at h
    subst h
    cases o <;> exact ⟨_, rfl, rfl⟩
  | o :: os, j, k + 1, o', h => by
    obtain ⟨x, h1, h2⟩ := cellOf_at (d := d) (g := g) os (j + 1) k o' (by simpa using h)
    rw [show j + 1 + k = j + (k + 1) by omega] at h1
    refine ⟨x, h1, ?_⟩
    cases o <;> simpa [cellOfOV] using h2
theorem cellOf_len {d g : Nat} : (os : List OV) → (j : Nat) → (cellOfOV d g j os).length = os.length
  | [], _ => rfl
  | o :: os, j => by cases o <;> simp [cellOfOV, cellOf_len os (j + 1)]

/-- Cells at a place that is known. -/
theorem HoldL.cells_at {c : Cz} {w : World} {f : Nat → Lb} {os : List OV} {vs : List Value} (h : HoldL c w f 0 os vs) (lcs : Nat → Loc) (ho : ∀ k A u, os[k]? = some (.own A) → vs[k]? = some u → ∃ l, OwnAt c w l (lcs k) A u)
    (c2 : Cz) (st2 : St) (d g : Nat) (hok : ∀ b, c.ok b → c2.ok b) (hlc : ∀ k, c2.lc d k = lcs k) (harr : ∀ k A, arr? st2 d k g = some A → os[k]? = some (.own A)) (hg : g ≤ genA st2 d) : RelL c2 st2 w (cellOfOV d g 0 os) vs := by
  obtain ⟨h1, h2⟩ := HoldL.nthc os 0 vs h
  refine ⟨by rw [cellOf_len, h1], fun k x v hx hv => ?_⟩
  have hlt : k < os.length := by rw [← h1]; exact (List.getElem?_eq_some_iff.1 hv).1
  have hok' : os[k]? = some os[k] := List.getElem?_eq_getElem hlt
  obtain ⟨y, q1, q2⟩ := cellOf_at (d := d) (g := g) os 0 k _ hok'
  rw [q2] at hx
  cases hx
  have hL := h2 k _ v hok' hv
  rw [Nat.zero_add] at q1
  generalize os[k] = o at *
  cases o with
  | own A =>
    simp only [cellOfOV, List.cons.injEq, and_true] at q1
    subst q1
    obtain ⟨l, hO⟩ := ho k A v hok' hv
    refine ⟨hO.1, hg, fun A' hA' => ?_⟩
    have := harr k A' hA'
    rw [hok'] at this
    cases this
    rw [hlc]
    exact hO.2.1
  | shr r xs =>
    simp only [cellOfOV, List.cons.injEq, and_true] at q1
    subst q1
    obtain ⟨v', l, e, h3, _⟩ := hL
    cases e
    exact RepTy.stays ⟨Nat.le_refl _, fun _ _ _ => rfl, fun b _ hb => hok b hb⟩ _ _ _ h3
  | _ =>
    simp only [cellOfOV, List.cons.injEq, and_true] at q1
    subst q1
    obtain ⟨l, e, _⟩ := hL
    cases e
    rfl

theorem slot_at {c : Cz} {w : World} {k : Nat} {lio : Nat → Loc} {av : Option AV} {u : Value} (h : ∀ v, av = some v → HoldA c w k lio v u) : ∃ blk lcs, SlotAt c w k av u lio blk lcs := by
  cases av with
  | none => exact ⟨0, fun _ => .nil, fun j A hA => by simp [slotOf, Sl.blank] at hA, fun c2 st2 _ _ _ _ => trivial, fun cs hcs => by simp [slotOf, Sl.blank] at hcs, fun A hA => (by cases hA), fun A hA => (by cases hA)⟩
  | some av =>
    have h := h av rfl
    cases av with
    | val agg os =>
      cases agg with
      | true =>
        obtain ⟨vs, rfl, hl⟩ := h
        obtain ⟨lcs, g1, g2⟩ := HoldL.cells os 0 _ hl
        simp only [Nat.zero_add] at g1 g2
        refine ⟨0, lcs, fun j A hA => g1 j A hA, fun c2 st2 hok _ hlc hn => ⟨vs, rfl, ?_⟩, fun cs hcs => by simp [slotOf] at hcs, fun A hA => (by cases hA), fun A hA => (by cases hA)⟩
        exact g2 c2 st2 k 1 hok (fun j _ => by rw [hlc]) (fun j A _ hA => arr?_slot hn hA) (by rw [genA_slot hn]; exact Nat.le_refl _)
      | false =>
        have hl : HoldL c w (.pend k) 0 os [u] := h
        obtain ⟨lcs, g1, g2⟩ := HoldL.cells os 0 _ hl
        simp only [Nat.zero_add] at g1 g2
        refine ⟨0, lcs, fun j A hA => g1 j A hA, fun c2 st2 hok _ hlc hn => ?_, fun cs hcs => by simp [slotOf] at hcs, fun A hA => (by cases hA), fun A hA => (by cases hA)⟩
        have hR := g2 c2 st2 k 1 hok (fun j _ => by rw [hlc]) (fun j A _ hA => arr?_slot hn hA) (by rw [genA_slot hn]; exact Nat.le_refl _)
        show RelV c2 st2 w (match cellOfOV k 1 0 os with | [c] => .one c | _ => .one .bad) u
        have h1 := hR.1
        cases hc : cellOfOV k 1 0 os with
        | nil => trivial
        | cons x l => cases l with
          | nil => rw [hc] at hR; exact hR.2 0 x u rfl rfl
          | cons _ _ => trivial
    | io A =>
      have hO : OwnAt c w (.pend k 0) (lio 0) A u := h
      refine ⟨0, lio, fun j A' hA' => ?_, fun c2 st2 hok _ hlc hn => ?_, fun cs hcs => by simp [slotOf] at hcs, fun A hA => rfl, fun A hA => by cases hA⟩
      · cases j with
        | zero => simp [slotOf, nth] at hA'; subst hA'; exact ⟨u, hO⟩
        | succ j => simp [slotOf, nth] at hA'
      · refine ⟨hO.1, by rw [genA_slot hn]; exact Nat.le_refl _, fun A' hA' => ?_⟩
        have := arr?_slot hn hA'
        simp [slotOf, nth] at this
        subst this
        rw [hlc]
        exact hO.2.1
    | lend os =>
      obtain ⟨vs, rfl, hl, hloc⟩ := h
      have hown : ∀ j A u, os[j]? = some (.own A) → vs.toList[j]? = some u → OwnAt c w (.pend k j) (lio j) A u := fun j A u h1 h2 => hloc j _ u h1 h2
      obtain ⟨n1, _⟩ := HoldL.nthc os 0 _ hl
      refine ⟨0, lio, fun j A' hA' => ?_, fun c2 st2 hok _ hlc hn => ⟨vs, rfl, ?_⟩, fun cs hcs => by simp [slotOf] at hcs, fun A hA => (by cases hA), fun os' _ => rfl⟩
      · have hj := nth_arrs os j hA'
        have hlt : j < vs.toList.length := by rw [n1]; exact (List.getElem?_eq_some_iff.1 hj).1
        exact ⟨_, hown j A' _ hj (List.getElem?_eq_getElem hlt)⟩
      · exact HoldL.cells_at hl lio (fun j A u h1 h2 => ⟨_, hown j A u h1 h2⟩) c2 st2 k 1 hok (fun j => by rw [hlc]) (fun j A hA => nth_arrs os j (arr?_slot hn hA)) (by rw [genA_slot hn]; exact Nat.le_refl _)
    | box os =>
      obtain ⟨blk, vs, ty, h1, h2, h3, hl⟩ := h
      obtain ⟨lcs, g1, g2⟩ := HoldL.cells os 0 _ hl
      simp only [Nat.zero_add] at g1 g2
      refine ⟨blk, lcs, fun j A hA => g1 j A hA, fun c2 st2 hok hbx hlc hn => ⟨by rw [h1]; rfl, by rw [genB_slot hn]; exact Nat.le_refl _, fun cs _ => by rw [hbx]; exact h1⟩, fun cs hcs => ⟨h1, h2, vs, ty, h3, fun c2 st2 hok hlc hn => ?_⟩, fun A hA => (by cases hA), fun A hA => (by cases hA)⟩
      simp only [slotOf, Option.some.injEq] at hcs
      subst hcs
      exact g2 c2 st2 k 1 hok (fun j _ => by rw [hlc]) (fun j A _ hA => arr?_slot hn hA) (by rw [genA_slot hn]; exact Nat.le_refl _)

/-- A STATE FROM SCRATCH: what stands in the slots, and nothing else. -/
theorem Rel.scratch {w0 : World} {mu : Mu} {c : Cz} {a : Act} {w : World} {L : List (Option AV)} {lc : Nat → Nat → Loc} (hb : Bas w0 mu c w) (hd : a.defers = []) (hL : HoldSlots c w lc a 0 L) (hA : ∀ p ∈ mu.an, AnFits L lc a p) : ∃ c', Rel w0 mu c' (slots 0 L) a w := by
  have hsl : ∀ k, ∃ q : Nat × (Nat → Loc), SlotAt c w k ((L[k]?).getD none) (a.eval (.tmp k)) (lc k) q.1 q.2 := by
    intro k
    obtain ⟨blk, lcs, h⟩ := slot_at (c := c) (w := w) (k := k) (lio := lc k) (av := (L[k]?).getD none) (u := a.eval (.tmp k)) (fun v hv => by
      have := hL k v (by
        cases hq : L[k]? with
        | none => rw [hq] at hv; cases hv
        | some o => rw [hq] at hv; simp at hv; rw [hv])
      simpa using this)
    exact ⟨(blk, lcs), h⟩
  obtain ⟨q, hq⟩ := Classical.axiomOfChoice hsl
  have hn : ∀ k, nth (slots 0 L) k = (L[k]?).map (slotOf k) := fun k => by have := nth_slots L 0 k; simpa using this
  have hn' : ∀ k sl, nth (slots 0 L) k = some sl → ∃ o, L[k]? = some o ∧ sl = slotOf k o ∧ nth (slots 0 L) k = some (slotOf k ((L[k]?).getD none)) ∧ (L[k]?).getD none = o := by
    intro k sl h
    rw [hn] at h
    cases ho : L[k]? with
    | none => rw [ho] at h; cases h
    | some o =>
      rw [ho] at h
      cases h
      refine ⟨o, rfl, rfl, ?_, rfl⟩
      rw [hn, ho]; rfl
  let c' := c.turn turnIn (fun k => (q k).1) (fun k => (q k).2)
  have hok : ∀ b, c.ok b → c'.ok b := fun b hb => Cz.turn_ok.2 hb
  refine ⟨c', fun t => ?_, fun s sl cs hs hbx => ?_, fun s j sl A hs hA' => ?_, fun b l hl => ?_, fun b hlt hl => hb.free b hlt (by simpa [c', Cz.turn] using hl), hb.kept, hb.old, hd, fun p hp => ?_⟩
  · cases hs : nth (slots 0 L) t with
    | none =>
      have : getV (slots 0 L) t = .one .bad := by unfold getV; rw [hs]
      rw [this]; trivial
    | some sl =>
      obtain ⟨o, h1, rfl, h3, h4⟩ := hn' t sl hs
      have : getV (slots 0 L) t = (slotOf t ((L[t]?).getD none)).v := by unfold getV; rw [h3]
      rw [this]
      exact (hq t).reg c' (slots 0 L) hok rfl rfl h3
  · obtain ⟨o, h1, rfl, h3, h4⟩ := hn' s sl hs
    rw [← h4] at hbx
    obtain ⟨g1, g2, vs, ty, g3, g4⟩ := (hq s).box cs hbx
    refine ⟨?_, vs, ty, g3, g4 c' (slots 0 L) hok rfl h3⟩
    show (c.own (q s).1).map turnIn = _
    rw [g2]; rfl
  · obtain ⟨o, h1, rfl, h3, h4⟩ := hn' s sl hs
    rw [← h4] at hA'
    obtain ⟨v, hv⟩ := (hq s).arr j A hA'
    exact hv.arr rfl rfl
  · simp only [c', Cz.turn, Option.map_eq_some_iff] at hl
    obtain ⟨k, hk, e⟩ := hl
    obtain ⟨h1, h2⟩ := hb.owned b k hk
    refine ⟨h1, h2.imp (fun e2 => ?_) id⟩
    subst e2
    rw [← e]; rfl
  · have hf := hA p hp
    cases p with
    | arr i j g W n l =>
      obtain ⟨rfl, hi, hav⟩ := hf
      have hs : nth (slots 0 L) i = some (slotOf i ((L[i]?).getD none)) := by rw [hn]; simp [List.getElem?_eq_getElem hi]
      refine ⟨by rw [genA_slot hs]; exact Nat.le_refl _, fun A hA' => ?_⟩
      have h3 := arr?_slot hs hA'
      cases ho : L[i]? with
      | none => rw [ho] at h3; simp [slotOf, Sl.blank] at h3
      | some o => cases o with
        | none => rw [ho] at h3; simp [slotOf, Sl.blank] at h3
        | some av =>
          rcases hav av ho with ⟨A0, rfl, h5⟩ | ⟨os, rfl, h5⟩
          case inr =>
            rw [ho] at h3
            obtain ⟨e1, e2, e3⟩ := h5 A (nth_arrs os j h3)
            refine ⟨e1, e2, ?_⟩
            rw [← e3]
            have := (hq i).lend os (by rw [ho]; rfl)
            show (q i).2 j = lc i j
            rw [this]
          rw [ho] at h3
          cases j with
          | zero =>
            simp [slotOf, nth] at h3
            subst h3
            obtain ⟨e1, e2, e3⟩ := h5 rfl
            exact ⟨e1, e2, ((hq i).io A0 (by rw [ho]; rfl)).trans e3⟩
          | succ j => simp [slotOf, nth] at h3
    | box i g blk =>
      obtain ⟨rfl, hi, hav⟩ := hf
      have hs : nth (slots 0 L) i = some (slotOf i ((L[i]?).getD none)) := by rw [hn]; simp [List.getElem?_eq_getElem hi]
      refine ⟨by rw [genB_slot hs]; exact Nat.le_refl _, fun cs hcs => ?_⟩
      obtain ⟨sl, k1, k2, k3⟩ := box?_some hcs
      rw [hs] at k1; cases k1
      obtain ⟨g1, _⟩ := (hq i).box cs k3
      have hos : ∃ os, L[i]? = some (some (.box os)) := by
        cases ho : L[i]? with
        | none => rw [ho] at k3; simp [slotOf, Sl.blank] at k3
        | some o => cases o with
          | none => rw [ho] at k3; simp [slotOf, Sl.blank] at k3
          | some av => cases av with
            | val agg os => rw [ho] at k3; cases agg <;> simp [slotOf] at k3
            | io A => rw [ho] at k3; simp [slotOf] at k3
            | lend os => rw [ho] at k3; simp [slotOf] at k3
            | box os => exact ⟨os, rfl⟩
      obtain ⟨os, hos⟩ := hos
      have := hav os hos
      rw [this] at g1
      injection g1 with g1
      injection g1 with g1
      injection g1 with g1
      exact g1.symm

end Go.TM

/- The tree machine, part 31: a function's answer. -/
namespace Go.TM
open Go Go.RowKit

inductive Src where
  | tmp (t : Nat)
  | cell (t : Nat)
  | ptr (t : Nat)  -- the struct behind a pointer, which is handed back
/-- A result: where it stands, is it a struct, its cells. -/
structure RP where
  src : Src
  agg : Bool
  ps : List OP

def resRT : List RP → RT → RT
  | [], t => t
  | r :: rs, t => opsRT r.ps (resRT rs t)
def lendRT : List OP → RT → RT
  | [], t => t
  | .own r :: ps, t => .cons (.sl r) (lendRT ps t)
  | .int _ :: ps, t => lendRT ps t
  | .bool :: ps, t => lendRT ps t
  | .str :: ps, t => lendRT ps t
  | .shr _ :: ps, t => lendRT ps t
def extRT : List AP → RT
  | [] => .nil
  | .val _ _ :: l => extRT l
  | .io r :: l => .cons (.sl r) (extRT l)
  | .box _ ps :: l => opsRT ps (extRT l)
  | .lend ps :: l => lendRT ps (extRT l)

def RP.cells (st : St) (r : RP) : Option (List CV) :=
  match r.src with
  | .tmp t => match getV st t with
    | .agg cs => bif r.agg then some cs else none
    | .one c => bif r.agg then none else some [c]
    | .tup _ => none
  | .cell t => match getV st t with
    | .one (.ptr b g off) => bif Nat.beq off 0 then box? st b g else none
    | _ => none
  | .ptr t => match getV st t with
    | .one (.ptr b g off) => bif Nat.beq off 0 then box? st b g else none
    | _ => none

/-- The label of a result's own block. -/
def RP.lab (st : St) (r : RP) : List (Option Lb) :=
  match r.src with
  | .ptr t => (match getV st t with | .one (.ptr b _ _) => [some (.box b)] | _ => [])
  | _ => []

def packRs (st : St) : (rs : List RP) → (t : RT) → denR t → Option (denR (resRT rs t) × List (Option Lb) × List (Nat × Nat))
  | [], _, y => some (y, [], [])
  | r :: rs, t, y => (r.cells st).bind fun cs => (packRs st rs t y).bind fun q => (packL st r.ps (resRT rs t) cs q.1).map fun p => (p.1, r.lab st ++ (p.2.1 ++ q.2.1), p.2.2 ++ q.2.2)

/-- The arrays of a lent struct. -/
def packLend (st : St) (i : Nat) : (j : Nat) → (ps : List OP) → (t : RT) → denR t → Option (denR (lendRT ps t) × List Lb)
  | _, [], _, y => some (y, [])
  | j, .own r :: ps, t, y => (packLend st i (j + 1) ps t y).bind fun q => (arr? st i j 1).bind fun A => bif A.own then (castL r A.xs).map fun xs => ((xs, q.1), .sp i j :: q.2) else none
  | j, .int _ :: ps, t, y => packLend st i (j + 1) ps t y
  | j, .bool :: ps, t, y => packLend st i (j + 1) ps t y
  | j, .str :: ps, t, y => packLend st i (j + 1) ps t y
  | j, .shr _ :: ps, t, y => packLend st i (j + 1) ps t y

def packXs (st : St) : (i : Nat) → (ps : List AP) → Option (denR (extRT ps) × List Lb × List (Nat × Nat))
  | _, [] => some ((), [], [])
  | i, .val _ _ :: l => packXs st (i + 1) l
  | i, .io r :: l => (packXs st (i + 1) l).bind fun q => (packA st i (.io r) (extRT l) (.one (.ref i 0 1 .full)) q.1).map fun p => (p.1, p.2.1 ++ q.2.1, p.2.2 ++ q.2.2)
  | i, .box _ ps :: l => (packXs st (i + 1) l).bind fun q => (packA st i (.box true ps) (extRT l) (.one (.ptr i 1 0)) q.1).map fun p => (p.1, p.2.1 ++ q.2.1, p.2.2 ++ q.2.2)
  | i, .lend ps :: l => (packXs st (i + 1) l).bind fun q => (packLend st i 0 ps (extRT l) q.1).map fun p => (p.1, p.2 ++ q.2.1, q.2.2)

/-- A function's end. -/
def finK (rs : List RP) (ps : List AP) : Ex → St → Option (denR (resRT rs (extRT ps)))
  | .exit _, _ => none
  | _, st => (packXs st 0 ps).bind fun x => (packRs st rs (extRT ps) x.1).bind fun q => bif noTwice (somes q.2.1 ++ x.2.1) && apart (somes q.2.1 ++ x.2.1) (q.2.2 ++ x.2.2) then some q.1 else none

/-! ### What the data say to the caller -/
def RP.rv (r : RP) (os : List OV) : RV :=
  match r.src with
  | .ptr _ => .ptr os
  | _ => match r.agg, os with
    | false, [o] => .one o
    | _, os => .agg os
def outsOf : (rs : List RP) → (t : RT) → denR (resRT rs t) → List RV × denR t
  | [], _, x => ([], x)
  | r :: rs, t, x => (r.rv (opsOV r.ps (resRT rs t) x).1 :: (outsOf rs t (opsOV r.ps (resRT rs t) x).2).1, (outsOf rs t (opsOV r.ps (resRT rs t) x).2).2)
def lendX : (ps : List OP) → (t : RT) → denR (lendRT ps t) → List (Option Arr) × denR t
  | [], _, x => ([], x)
  | .own r :: ps, t, x => (some { r := r, own := true, xs := x.1 } :: (lendX ps t x.2).1, (lendX ps t x.2).2)
  | .int _ :: ps, t, x => (none :: (lendX ps t x).1, (lendX ps t x).2)
  | .bool :: ps, t, x => (none :: (lendX ps t x).1, (lendX ps t x).2)
  | .str :: ps, t, x => (none :: (lendX ps t x).1, (lendX ps t x).2)
  | .shr _ :: ps, t, x => (none :: (lendX ps t x).1, (lendX ps t x).2)
def extsOf : (ps : List AP) → denR (extRT ps) → List XV
  | [], _ => []
  | .val _ _ :: l, x => extsOf l x
  | .io r :: l, x => .io { r := r, own := true, xs := x.1 } :: extsOf l x.2
  | .box _ ps :: l, x => .box (opsOV ps (extRT l) x).1 :: extsOf l (opsOV ps (extRT l) x).2
  | .lend ps :: l, x => .lend (lendX ps (extRT l) x).1 :: extsOf l (lendX ps (extRT l) x).2

/-- A function's meaning, for its callers. -/
def semOf (ps : List AP) (rs : List RP) (t : denR (headRT (ps.map some)) → Option (denR (resRT rs (extRT ps)))) : Sem1 := fun avs =>
  match castAs ps avs with
  | some x => some { r := resRT rs (extRT ps), o := t x, res := fun y => { outs := (outsOf rs (extRT ps) y).1, exts := extsOf ps (outsOf rs (extRT ps) y).2 } }
  | none => none

/-! ### It is so -/
theorem packLend_ok {st : St} {i : Nat} : (ps : List OP) → (j : Nat) → (t : RT) → (y : denR t) → {x : denR (lendRT ps t)} → {u : List Lb} → packLend st i j ps t y = some (x, u) → (lendX ps t x).2 = y ∧ (∀ l ∈ u, ∃ k, l = .sp i k) ∧
    ∀ (k : Nat) (r : RT), ps[k]? = some (.own r) → ∃ A xs, arr? st i (j + k) 1 = some A ∧ A.own = true ∧ castL r A.xs = some xs ∧ nth (lendX ps t x).1 k = some (some { r := r, own := true, xs := xs }) ∧ .sp i (j + k) ∈ u
  | [], j, t, y, x, u, h => by
    injection h with h
    injection h with e1 e2
    subst e1 e2
    exact ⟨rfl, by simp, fun k r hk => by simp at hk⟩
  | .own r :: ps, j, t, y, x, u, h => by
    unfold packLend at h
    obtain ⟨q, hq, h⟩ := Option.bind_eq_some_iff.1 h
    obtain ⟨A, hA, h⟩ := Option.bind_eq_some_iff.1 h
    obtain ⟨ho, h⟩ := bif_some h
    obtain ⟨xs, hxs, h⟩ := Option.map_eq_some_iff.1 h
    injection h with e1 e2
    subst e1 e2
    obtain ⟨z, us⟩ := q
    obtain ⟨g1, g2, g3⟩ := packLend_ok ps (j + 1) t y hq
    refine ⟨g1, fun l hl => ?_, fun k r' hk => ?_⟩
    · rcases List.mem_cons.1 hl with rfl | hl
      · exact ⟨j, rfl⟩
      · exact g2 l hl
    · cases k with
      | zero =>
        simp only [List.getElem?_cons_zero, Option.some.injEq, OP.own.injEq] at hk
        subst hk
        exact ⟨A, xs, hA, ho, hxs, rfl, List.mem_cons_self⟩
      | succ k =>
        obtain ⟨A', xs', k1, k2, k3, k4, k5⟩ := g3 k r' (by simpa using hk)
        rw [show j + 1 + k = j + (k + 1) by omega] at k1 k5
        exact ⟨A', xs', k1, k2, k3, k4, List.mem_cons_of_mem _ k5⟩
  | .int _ :: ps, j, t, y, x, u, h => packLend_skip (packLend_ok ps (j + 1) t y h) (by simp) (fun k => rfl)
  | .bool :: ps, j, t, y, x, u, h => packLend_skip (packLend_ok ps (j + 1) t y h) (by simp) (fun k => rfl)
  | .str :: ps, j, t, y, x, u, h => packLend_skip (packLend_ok ps (j + 1) t y h) (by simp) (fun k => rfl)
  | .shr _ :: ps, j, t, y, x, u, h => packLend_skip (packLend_ok ps (j + 1) t y h) (by simp) (fun k => rfl)
where
  packLend_skip {st : St} {i j : Nat} {p : OP} {ps : List OP} {D : Type} {y z : D} {L L' : List (Option Arr)} {u : List Lb} (h : z = y ∧ (∀ l ∈ u, ∃ k, l = .sp i k) ∧ ∀ (k : Nat) (r : RT), ps[k]? = some (.own r) → ∃ A xs, arr? st i (j + 1 + k) 1 = some A ∧ A.own = true ∧ castL r A.xs = some xs ∧ nth L k = some (some { r := r, own := true, xs := xs }) ∧ .sp i (j + 1 + k) ∈ u)
      (hp : ∀ r, p ≠ .own r) (hL : ∀ k, nth L' (k + 1) = nth L k) : z = y ∧ (∀ l ∈ u, ∃ k, l = .sp i k) ∧ ∀ (k : Nat) (r : RT), (p :: ps)[k]? = some (.own r) → ∃ A xs, arr? st i (j + k) 1 = some A ∧ A.own = true ∧ castL r A.xs = some xs ∧ nth L' k = some (some { r := r, own := true, xs := xs }) ∧ .sp i (j + k) ∈ u := by
    obtain ⟨h1, h2, h3⟩ := h
    refine ⟨h1, h2, fun k r hk => ?_⟩
    cases k with
    | zero =>
      simp only [List.getElem?_cons_zero, Option.some.injEq] at hk
      exact absurd hk (hp r)
    | succ k =>
      obtain ⟨A', xs', k1, k2, k3, k4, k5⟩ := h3 k r (by simpa using hk)
      rw [show j + 1 + k = j + (k + 1) by omega] at k1 k5
      exact ⟨A', xs', k1, k2, k3, by rw [hL]; exact k4, k5⟩

theorem packL_len {st : St} : (ps : List OP) → (t : RT) → (cs : List CV) → (y : denR t) → {x : denR (opsRT ps t)} → {u : List (Option Lb)} → {r : List (Nat × Nat)} → packL st ps t cs y = some (x, u, r) → u.length = ps.length ∧ cs.length = ps.length ∧ (opsOV ps t x).1.length = ps.length
  | [], t, [], y, x, u, r, h => by
    injection h with h
    injection h with e1 e2
    injection e2 with e2 e3
    subst e1 e2 e3
    exact ⟨rfl, rfl, rfl⟩
  | [], t, _ :: _, y, x, u, r, h => by simp [packL] at h
  | _ :: _, t, [], y, x, u, r, h => by simp [packL] at h
  | p :: ps, t, c :: cs, y, x, u, r, h => by
    unfold packL at h
    cases hc : expC st p.isOwn c with
    | none => simp [hc] at h
    | some q1 =>
      obtain ⟨o, u1, r1⟩ := q1
      cases hq : packL st ps t cs y with
      | none => simp [hc, hq] at h
      | some q2 =>
        obtain ⟨z, us, rs⟩ := q2
        simp only [hc, hq] at h
        cases ho : castO p o with
        | none => simp [ho] at h
        | some a1 =>
          simp only [ho] at h
          injection h with h
          injection h with e1 e2
          injection e2 with e2 e3
          subst e1 e2 e3
          obtain ⟨g1, g2, g3⟩ := packL_len ps t cs y hq
          exact ⟨by simp [g1], by simp [g2], by simp [opsOV, g3]⟩

/-- A result's value out of its cells. -/
def resVal (T : Tab) (fr : Array Value) : ResultVar → RP → Prop
  | .tmp t, r => r.src = .tmp t ∨ r.src = .ptr t
  | .cell t ty, r => r.src = .cell t ∧ T.cells ty = some r.ps.length ∧ T.agg ty = r.agg

/-- One result of a frame. -/
def oneRes (tm : Array Value) : ResultVar → Sem Value
  | .tmp t => pure (tm.getD t undef)
  | .cell a t => do loadVar t (← asAddr (tm.getD a undef))

theorem RP.cells_ok {P : Program} {T : Tab} (hT : TabOk P T) {w0 : World} {mu : Mu} {c : Cz} {st : St} {a : Act} {w : World} (h : Rel w0 mu c st a w) {r : RP} {rv : ResultVar} (hr : resVal T a.tmps rv r) {cs : List CV} (hc : r.cells st = some cs) (hn : cs.length = r.ps.length) :
    ∃ vs v, RelL c st w cs vs ∧ (oneRes a.tmps rv).run P w = .ok v w ∧ (((∀ t, r.src ≠ .ptr t) ∧ ((r.agg = true ∧ v = .agg vs.toArray) ∨ (r.agg = false ∧ (vs = [v])))) ∨
      (∃ t b ty us, r.src = .ptr t ∧ r.lab st = [some (.box b)] ∧ v = .pointer (some ⟨c.bx b, 0, none⟩) ∧ c.own (c.bx b) = some (.box b) ∧ w.heap[c.bx b]? = some (.cells us ty (0, 0)) ∧ vs = us.toList)) := by
  unfold RP.cells at hc
  cases rv with
  | tmp t =>
    rcases (hr : r.src = .tmp t ∨ r.src = .ptr t) with hs | hs
    case inr =>
      rw [hs] at hc
      have hreg := h.regs t
      simp only at hc
      cases hv : getV st t with
      | tup _ => rw [hv] at hc; cases hc
      | agg l => rw [hv] at hc; cases hc
      | one x =>
        cases x with
        | ptr b g off =>
          rw [hv] at hc hreg
          obtain ⟨ho, hb⟩ := bif_some hc
          have ho := Nat.eq_of_beq_eq_true ho
          subst ho
          obtain ⟨sl, k1, k2, k3⟩ := box?_some hb
          obtain ⟨q1, vs, ty', q2, q3⟩ := h.boxes b sl cs k1 k3
          have e : a.tmps.getD t undef = .pointer (some ⟨c.bx b, 0, none⟩) := hreg.2.2 cs hb
          refine ⟨vs.toList, a.tmps.getD t undef, q3, rfl, .inr ⟨t, b, ty', vs, hs, ?_, e, q1, q2, rfl⟩⟩
          unfold RP.lab
          rw [hs]
          simp only [hv]
        | _ => rw [hv] at hc; cases hc
    rw [hs] at hc
    have hreg := h.regs t
    simp only at hc
    cases hv : getV st t with
    | tup _ => rw [hv] at hc; cases hc
    | agg l =>
      rw [hv] at hc hreg
      obtain ⟨hag, hc1⟩ := bif_some hc
      cases hc1
      obtain ⟨vs, e, hl⟩ := hreg
      exact ⟨vs.toList, a.eval (.tmp t), hl, rfl, .inl ⟨fun t' e' => (by rw [hs] at e'; cases e'), .inl ⟨hag, by rw [e]⟩⟩⟩
    | one x =>
      rw [hv] at hc hreg
      simp only at hc
      cases hag : r.agg with
      | true => rw [hag] at hc; cases hc
      | false =>
        rw [hag] at hc
        cases hc
        refine ⟨[a.eval (.tmp t)], a.eval (.tmp t), ⟨rfl, fun i y z hy hz => ?_⟩, rfl, .inl ⟨fun t' e' => (by rw [hs] at e'; cases e'), .inr ⟨rfl, rfl⟩⟩⟩
        cases i with
        | zero => simp at hy hz; subst hy hz; exact hreg
        | succ i => simp at hy
  | cell t ty =>
    obtain ⟨hs, h1, h2⟩ := hr
    rw [hs] at hc
    have hreg := h.regs t
    simp only at hc
    cases hv : getV st t with
    | tup _ => rw [hv] at hc; cases hc
    | agg l => rw [hv] at hc; cases hc
    | one x =>
      cases x with
      | ptr b g off =>
        rw [hv] at hc hreg
        obtain ⟨ho, hb⟩ := bif_some hc
        have ho := Nat.eq_of_beq_eq_true ho
        subst ho
        obtain ⟨sl, k1, k2, k3⟩ := box?_some hb
        obtain ⟨q1, vs, ty', q2, q3⟩ := h.boxes b sl cs k1 k3
        have e : a.tmps.getD t undef = .pointer (some ⟨c.bx b, 0, none⟩) := hreg.2.2 cs hb
        have hrange : w.rangeAt (c.bx b) 0 vs.toList := by
          have := rangeAt_box (off := 0) q2 vs.toList.length
          rwa [List.drop_zero, List.take_length] at this
        have hlen : vs.toList.length = r.ps.length := by rw [← q3.1, hn]
        have hrun := run_loadVar_cells (P := P) hT h1 w (c.bx b) 0 vs.toList hrange hlen
        refine ⟨vs.toList, valOf (T.agg ty) vs.toList, q3, ?_, .inl ⟨fun t' e' => (by rw [hs] at e'; cases e'), ?_⟩⟩
        · simp [oneRes, e, asAddr, Sem.run_bind, hrun]
        · rw [h2]
          cases hag : r.agg with
          | true => exact .inl ⟨rfl, by simp [valOf]⟩
          | false =>
            obtain ⟨_, _, _, hone⟩ := hT.agg ty _ h1
            have h3 := hone (by rw [h2, hag])
            refine .inr ⟨rfl, ?_⟩
            have : vs.toList.length = 1 := by rw [hlen, h3]
            cases hvs : vs.toList with
            | nil => rw [hvs] at this; cases this
            | cons x l => cases l with
              | nil => rfl
              | cons _ _ => rw [hvs] at this; simp at this
      | _ => rw [hv] at hc; cases hc

end Go.TM

/- The tree machine, part 32: a function keeps its contract. -/
namespace Go.TM
open Go Go.RowKit

/-- The results fit the patterns. -/
def ResFit (T : Tab) (tm : Array Value) : List ResultVar → List RP → Prop
  | [], [] => True
  | v :: vs, r :: rs => resVal T tm v r ∧ ResFit T tm vs rs
  | _, _ => False

theorem packRs_ok {P : Program} {T : Tab} (hT : TabOk P T) {w0 : World} {mu : Mu} {c : Cz} {st : St} {a : Act} {w : World} (h : Rel w0 mu c st a w) : (rvs : List ResultVar) → (rs : List RP) → ResFit T a.tmps rvs rs → (t : RT) → (y : denR t) → {x : denR (resRT rs t)} → {u : List (Option Lb)} → {r : List (Nat × Nat)} → packRs st rs t y = some (x, u, r) →
    (outsOf rs t x).2 = y ∧ (outsOf rs t x).1.length = rs.length ∧ (∀ l ∈ somes u, l.real = true) ∧ ∃ vals : List Value, (rvs.mapM (oneRes a.tmps)).run P w = .ok vals w ∧ vals.length = rvs.length ∧
      ∀ (ρ : Lb → Option Lb) (j : Nat), (∀ k l, nth u k = some (some l) → ρ l = some (.pres (j + k))) → (∀ p ∈ r, ρ (.sp p.1 p.2) = none) → HoldR (c.map ρ) w j (outsOf rs t x).1 vals
  | [], [], _, t, y, x, u, r, he => by
    injection he with he
    injection he with e1 e2
    injection e2 with e2 e3
    subst e1 e2 e3
    exact ⟨rfl, rfl, by simp [somes], [], rfl, rfl, fun _ _ _ _ => rfl⟩
  | [], _ :: _, hf, _, _, _, _, _, _ => hf.elim
  | _ :: _, [], hf, _, _, _, _, _, _ => hf.elim
  | rv :: rvs, rr :: rs, hf, t, y, x, u, r, he => by
    unfold packRs at he
    obtain ⟨cs, hc, he⟩ := Option.bind_eq_some_iff.1 he
    obtain ⟨q, hq, he⟩ := Option.bind_eq_some_iff.1 he
    obtain ⟨p, hp, he⟩ := Option.map_eq_some_iff.1 he
    obtain ⟨x2, u2, r2⟩ := q
    obtain ⟨x1, u1, r1⟩ := p
    injection he with e1 e2
    injection e2 with e2 e3
    subst e1 e2 e3
    obtain ⟨l1, l2, l3⟩ := packL_len rr.ps _ cs _ hp
    obtain ⟨vs, v, g1, g2, g3⟩ := RP.cells_ok hT h hf.1 hc l2
    obtain ⟨k1, k2, k3, vals, k4, k5, k6⟩ := packRs_ok hT h rvs rs hf.2 t y hq
    have h0 := fun (ρ : Lb → Option Lb) (j : Nat) => packL_ok h (ρ := ρ) (f := .pres) rr.ps (resRT rs t) cs x2 vs j g1 hp
    have e0 := (h0 (fun _ => none) 0).1
    refine ⟨?_, ?_, fun l hl => ?_, v :: vals, ?_, by simp [k5], fun ρ j hu hr => ?_⟩
    · show (outsOf rs t (opsOV rr.ps (resRT rs t) x1).2).2 = y
      rw [e0]; exact k1
    · show (outsOf rs t (opsOV rr.ps (resRT rs t) x1).2).1.length + 1 = _
      rw [e0, k2]; rfl
    · rw [mem_somes] at hl
      rcases List.mem_append.1 hl with hl | hl
      · unfold RP.lab at hl
        split at hl
        · split at hl
          · simp only [List.mem_singleton, Option.some.injEq] at hl
            subst hl; rfl
          · cases hl
        · cases hl
      · rcases List.mem_append.1 hl with hl | hl
        · exact (h0 (fun _ => none) 0).2.1 l (mem_somes.2 hl)
        · exact k3 l (mem_somes.2 hl)
    · rw [List.mapM_cons]
      simp [Sem.run_bind, g2, k4]
    · have e : (outsOf (rr :: rs) t x1).1 = rr.rv (opsOV rr.ps (resRT rs t) x1).1 :: (outsOf rs t x2).1 := by
        show rr.rv (opsOV rr.ps (resRT rs t) x1).1 :: (outsOf rs t (opsOV rr.ps (resRT rs t) x1).2).1 = _
        rw [e0]
      show HoldR (c.map ρ) w j (outsOf (rr :: rs) t x1).1 (v :: vals)
      rw [e]
      rcases g3 with ⟨hnp, g3⟩ | ⟨tt, b, ty, us, hsrc, hlab, hv, hown, hheap, hvs⟩
      · have hlab : rr.lab st = [] := by
          unfold RP.lab
          split
          · rename_i t' e'; exact absurd e' (hnp t')
          · rfl
        rw [hlab, List.nil_append] at hu
        have hL := (h0 ρ j).2.2 (fun k l hk => hu k l (by
          rw [nth_append, if_pos (nth_lt hk)]; exact hk)) (fun p hp => hr p (List.mem_append_left _ hp))
        have hrest := k6 ρ (j + rr.ps.length) (fun k l hk => by
          have := hu (rr.ps.length + k) l (by rw [nth_append, l1, if_neg (by omega), Nat.add_sub_cancel_left]; exact hk)
          rw [Nat.add_assoc]; exact this) (fun p hp => hr p (List.mem_append_right _ hp))
        have hrv : ∀ os, rr.rv os = (match rr.agg, os with | false, [o] => RV.one o | _, os => RV.agg os) := by
          intro os
          unfold RP.rv
          split
          · rename_i t' e'; exact absurd e' (hnp t')
          · rfl
        rcases g3 with ⟨ha, rfl⟩ | ⟨ha, rfl⟩
        · have er : rr.rv (opsOV rr.ps (resRT rs t) x1).1 = .agg (opsOV rr.ps (resRT rs t) x1).1 := by rw [hrv, ha]
          rw [er]
          exact ⟨vs.toArray, vals, rfl, by simpa using hL, by rw [l3]; exact hrest⟩
        · have hlen : cs.length = 1 := g1.1
          have : (opsOV rr.ps (resRT rs t) x1).1.length = 1 := by rw [l3, ← l2, hlen]
          cases ho : (opsOV rr.ps (resRT rs t) x1).1 with
          | nil => rw [ho] at this; cases this
          | cons o l => cases l with
            | cons _ _ => rw [ho] at this; simp at this
            | nil =>
              have er : rr.rv [o] = .one o := by rw [hrv, ha]
              rw [er]
              rw [ho] at hL
              refine ⟨v, vals, rfl, hL, ?_⟩
              rw [← l2, hlen] at hrest
              exact hrest
      · rw [hlab] at hu
        have hb := hu 0 (.box b) rfl
        have hL := (h0 ρ (j + 1)).2.2 (fun k l hk => by
          have := hu (k + 1) l (by
            show nth (u1 ++ u2) k = _
            rw [nth_append, if_pos (nth_lt hk)]; exact hk)
          rwa [show j + (k + 1) = j + 1 + k by omega] at this) (fun p hp => hr p (List.mem_append_left _ hp))
        have hrest := k6 ρ (j + (rr.ps.length + 1)) (fun k l hk => by
          have := hu (rr.ps.length + k + 1) l (by
            show nth (u1 ++ u2) (rr.ps.length + k) = _
            rw [nth_append, l1, if_neg (by omega), Nat.add_sub_cancel_left]; exact hk)
          rwa [show j + (rr.ps.length + k + 1) = j + (rr.ps.length + 1) + k by omega] at this) (fun p hp => hr p (List.mem_append_right _ hp))
        have er : rr.rv (opsOV rr.ps (resRT rs t) x1).1 = .ptr (opsOV rr.ps (resRT rs t) x1).1 := by unfold RP.rv; rw [hsrc]
        rw [er]
        subst hvs
        refine ⟨v, vals, rfl, ⟨c.bx b, us, ty, hv, ?_, hheap, hL⟩, by rw [l3]; exact hrest⟩
        rw [Nat.add_zero] at hb
        exact (Cz.map_own hown).trans hb

/-- What was lent is where it was. -/
def LentOk (mu : Mu) (lc : Nat → Nat → Loc) (i : Nat) (ps : List AP) (avs : List AV) (vs : List Value) : Prop :=
  ∀ (k : Nat) (p : AP) (av : AV) (v : Value), ps[k]? = some p → avs[k]? = some av → vs[k]? = some v → match p, av with
    | .io _, .io A => v.oneCell' = true ∧ SlAt (lc (i + k) 0) A.r.width 0 A.xs.length v ∧ Anc.arr (i + k) 0 1 A.r.width A.xs.length (lc (i + k) 0) ∈ mu.an
    | .box _ _, .box _ => ∃ blk, v = .pointer (some ⟨blk, 0, none⟩) ∧ Anc.box (i + k) 1 blk ∈ mu.an
    | .val _ _, .val _ _ => True
    | .lend qs, .lend os => ∃ us, v = .agg us ∧ ∀ j A, os[j]? = some (.own A) → (∃ r, qs[j]? = some (.own r)) ∧ ∃ u, us.toList[j]? = some u ∧ u.oneCell' = true ∧ SlAt (lc (i + k) j) A.r.width 0 A.xs.length u ∧ Anc.arr (i + k) j 1 A.r.width A.xs.length (lc (i + k) j) ∈ mu.an
    | _, _ => False

theorem packXs_ok {w0 : World} {mu : Mu} {c : Cz} {st : St} {a : Act} {w : World} (h : Rel w0 mu c st a w) {lc : Nat → Nat → Loc} : (ps : List AP) → (i : Nat) → (avs : List AV) → (vs : List Value) → ps.length = avs.length → ps.length = vs.length → LentOk mu lc i ps avs vs → {x : denR (extRT ps)} → {u : List Lb} → {r : List (Nat × Nat)} → packXs st i ps = some (x, u, r) →
    (∀ l ∈ u, l.real = true) ∧ ∃ tb : List (Lb × Lb), tb.map (·.1) = u ∧ (∀ p ∈ tb, p.2.handed = true) ∧ ∀ ρ : Lb → Option Lb, (∀ p ∈ tb, ρ p.1 = some p.2) → (∀ p ∈ r, ρ (.sp p.1 p.2) = none) → HoldX (c.map ρ) w lc i avs vs (extsOf ps x)
  | [], i, avs, vs, h1, h2, _, x, u, r, he => by
    injection he with he
    injection he with e1 e2
    injection e2 with e2 e3
    subst e2 e3
    have : avs = [] := by simpa using h1.symm
    subst this
    exact ⟨by simp, [], rfl, by simp, fun _ _ _ => rfl⟩
  | p :: ps, i, [], vs, h1, _, _, _, _, _, _ => by simp at h1
  | p :: ps, i, _ :: _, [], _, h2, _, _, _, _, _ => by simp at h2
  | p :: ps, i, av :: avs, v :: vs, h1, h2, hl, x, u, r, he => by
    have hl' : LentOk mu lc (i + 1) ps avs vs := fun k p' av' v' e1 e2 e3 => by
      have := hl (k + 1) p' av' v' (by simpa using e1) (by simpa using e2) (by simpa using e3)
      rwa [show i + (k + 1) = i + 1 + k by omega] at this
    have h1' : ps.length = avs.length := by simpa using h1
    have h2' : ps.length = vs.length := by simpa using h2
    have h0 := hl 0 p av v rfl rfl rfl
    cases p with
    | val agg qs =>
      cases av with
      | val agg' os =>
        obtain ⟨g1, tb, g2, g3, g4⟩ := packXs_ok h ps (i + 1) avs vs h1' h2' hl' he
        exact ⟨g1, tb, g2, g3, fun ρ hp hr => g4 ρ hp hr⟩
      | io _ => exact h0.elim
      | box _ => exact h0.elim
      | lend _ => exact h0.elim
    | io rr =>
      cases av with
      | val _ _ => exact h0.elim
      | box _ => exact h0.elim
      | lend _ => exact h0.elim
      | io A =>
        obtain ⟨q1, q2, q3⟩ := h0
        simp only [Nat.add_zero] at q2 q3
        unfold packXs at he
        obtain ⟨q, hq, he⟩ := Option.bind_eq_some_iff.1 he
        obtain ⟨p, hp, he⟩ := Option.map_eq_some_iff.1 he
        obtain ⟨x2, u2, r2⟩ := q
        obtain ⟨x1, u1, r1⟩ := p
        injection he with e1 e2
        injection e2 with e2 e3
        subst e1 e2 e3
        obtain ⟨g1, tb, g2, g3, g4⟩ := packXs_ok h ps (i + 1) avs vs h1' h2' hl' hq
        have han := h.anch _ q3
        have hV : RelV c st w (.one (.ref i 0 1 .full)) v := ⟨q1, han.1, fun A' hA' => by
          obtain ⟨e1, e2, e3⟩ := han.2 A' hA'
          rw [e1, e3]
          show SlAt (lc i 0) A.r.width 0 A'.xs.length v
          rw [e2]
          exact q2⟩
        obtain ⟨a1, a2, ta, a3, a4, a5⟩ := packA_ok h i hV hp
        -- its place, its size
        obtain ⟨A', hA', hcast⟩ : ∃ A', arr? st i 0 1 = some A' ∧ ∃ xs, castL rr A'.xs = some xs ∧ x1.1 = xs := by
          have hp : (bif Nat.beq i i && (Nat.beq 0 0 && Nat.beq 1 1) then ((arr? st i 0 1).bind fun A => bif A.own then (castL rr A.xs).map fun xs => ((xs, x2), [Lb.sp i 0], ([] : List (Nat × Nat))) else none) else none) = some (x1, u1, r1) := hp
          obtain ⟨_, hp1⟩ := bif_some hp
          obtain ⟨A', hA', hp2⟩ := Option.bind_eq_some_iff.1 hp1
          obtain ⟨_, hp3⟩ := bif_some hp2
          obtain ⟨xs, hxs, e⟩ := Option.map_eq_some_iff.1 hp3
          injection e with e _
          exact ⟨A', hA', xs, hxs, by rw [← e]⟩
        obtain ⟨xs, hxs, ex⟩ := hcast
        obtain ⟨e1, e2, e3⟩ := han.2 A' hA'
        refine ⟨fun l hl => ?_, ta ++ tb, by simp [a3, g2], fun p hp => ?_, fun ρ hp hr => ?_⟩
        · rcases List.mem_append.1 hl with hl | hl
          · exact a2 l hl
          · exact g1 l hl
        · rcases List.mem_append.1 hp with hp | hp
          · exact a4 p hp
          · exact g3 p hp
        · have hA5 := a5 ρ (fun p hp' => hp p (List.mem_append_left _ hp')) (fun p hp' => hr p (List.mem_append_left _ hp'))
          have hrest := g4 ρ (fun p hp' => hp p (List.mem_append_right _ hp')) (fun p hp' => hr p (List.mem_append_right _ hp'))
          have hA5 : OwnAt (c.map ρ) w (.pend i 0) (c.lc i 0) { r := rr, own := true, xs := x1.1 } v := hA5
          rw [e3] at hA5
          obtain ⟨er, exs⟩ := castL_some hxs
          refine ⟨{ r := rr, own := true, xs := x1.1 }, extsOf ps x1.2, rfl, ?_, ?_, hA5, ?_⟩
          · show rr.width = A.r.width
            rw [← er]; exact e1
          · show List.length (x1.1 : List (denR rr)) = A.xs.length
            rw [ex, exs, ← e2]
            cases er
            rfl
          · have : x1.2 = x2 := a1
            rw [this]
            exact hrest
    | lend qs =>
      cases av with
      | val _ _ => exact h0.elim
      | io _ => exact h0.elim
      | box _ => exact h0.elim
      | lend os =>
        obtain ⟨us, rfl, q1⟩ := h0
        simp only [Nat.add_zero] at q1
        unfold packXs at he
        obtain ⟨q, hq, he⟩ := Option.bind_eq_some_iff.1 he
        obtain ⟨p, hp, he⟩ := Option.map_eq_some_iff.1 he
        obtain ⟨x2, u2, r2⟩ := q
        obtain ⟨x1, u1⟩ := p
        injection he with e1 e2
        injection e2 with e2 e3
        subst e1 e2 e3
        obtain ⟨g1, tb, g2, g3, g4⟩ := packXs_ok h ps (i + 1) avs vs h1' h2' hl' hq
        obtain ⟨a1, a2, a3⟩ := packLend_ok qs 0 (extRT ps) x2 hp
        let f : Lb → Lb × Lb := fun l => (l, match l with | .sp x y => .pend x y | l => l)
        refine ⟨fun l hl => ?_, u1.map f ++ tb, ?_, fun p hp => ?_, fun ρ hp hr => ?_⟩
        · rcases List.mem_append.1 hl with hl | hl
          · obtain ⟨k, rfl⟩ := a2 l hl; rfl
          · exact g1 l hl
        · rw [List.map_append, List.map_map, g2]
          congr 1
          exact List.map_id u1
        · rcases List.mem_append.1 hp with hp | hp
          · obtain ⟨l, hl, rfl⟩ := List.mem_map.1 hp
            obtain ⟨k, rfl⟩ := a2 l hl; rfl
          · exact g3 p hp
        · have hrest := g4 ρ (fun p hp' => hp p (List.mem_append_right _ hp')) hr
          refine ⟨(lendX qs (extRT ps) x1).1, extsOf ps (lendX qs (extRT ps) x1).2, rfl, ⟨us, rfl, fun j A hj => ?_⟩, by rw [a1]; exact hrest⟩
          obtain ⟨⟨r, hqr⟩, u, b1, b2, b3, b4⟩ := q1 j A hj
          obtain ⟨A', xs, c1, c2, c3, c4, c5⟩ := a3 j r hqr
          rw [Nat.zero_add] at c1 c5
          obtain ⟨e1, e2, e3⟩ := (h.anch _ b4).2 A' c1
          obtain ⟨er, exs⟩ := castL_some c3
          have ha := rel_arr h c1
          have hρ : ρ (.sp i j) = some (.pend i j) := hp (.sp i j, .pend i j) (List.mem_append_left _ (List.mem_map.2 ⟨_, c5, rfl⟩))
          have hw : r.width = A.r.width := by rw [← er]; exact e1
          have hn : xs.length = A.xs.length := by
            rw [← e2, exs]
            cases er
            rfl
          refine ⟨_, u, c4, b1, hw, hn, b2, ?_, rfl, ?_⟩
          · show SlAt (lc i j) r.width 0 xs.length u
            rw [hw, hn]; exact b3
          · show match lc i j with
              | .nil => xs = []
              | .at b off cap => _
            obtain ⟨rA, ownA, xsA⟩ := A'
            simp only at er c2
            subst er c2
            have exs : xs = xsA := exs
            subst exs
            unfold ArrOk at ha
            have e3 : c.lc i j = lc i j := e3
            rw [e3] at ha
            cases hlc : lc i j with
            | nil => rw [hlc] at ha; exact ha
            | «at» b off cap =>
              rw [hlc] at ha
              obtain ⟨k0, k2, k3, k4⟩ := ha
              exact ⟨(Cz.map_own k0).trans hρ, k2, k3, fun i x hi => RepR.stays ⟨Nat.le_refl _, fun _ _ _ => rfl, fun b _ hb => Cz.map_ok hb⟩ _ _ _ x rfl (k4 i x hi)⟩
    | box lent qs =>
      cases av with
      | val _ _ => exact h0.elim
      | io _ => exact h0.elim
      | lend _ => exact h0.elim
      | box os =>
        obtain ⟨blk, q1, q2⟩ := h0
        simp only [Nat.add_zero] at q2
        unfold packXs at he
        obtain ⟨q, hq, he⟩ := Option.bind_eq_some_iff.1 he
        obtain ⟨p, hp, he⟩ := Option.map_eq_some_iff.1 he
        obtain ⟨x2, u2, r2⟩ := q
        obtain ⟨x1, u1, r1⟩ := p
        injection he with e1 e2
        injection e2 with e2 e3
        subst e1 e2 e3
        obtain ⟨g1, tb, g2, g3, g4⟩ := packXs_ok h ps (i + 1) avs vs h1' h2' hl' hq
        have han := h.anch _ q2
        have hV : RelV c st w (.one (.ptr i 1 0)) v := ⟨by rw [q1]; rfl, han.1, fun cs hcs => by rw [han.2 cs hcs, q1]⟩
        obtain ⟨a1, a2, ta, a3, a4, a5⟩ := packA_ok h i hV hp
        refine ⟨fun l hl => ?_, ta ++ tb, by simp [a3, g2], fun p hp => ?_, fun ρ hp hr => ?_⟩
        · rcases List.mem_append.1 hl with hl | hl
          · exact a2 l hl
          · exact g1 l hl
        · rcases List.mem_append.1 hp with hp | hp
          · exact a4 p hp
          · exact g3 p hp
        · have hA5 := a5 ρ (fun p hp' => hp p (List.mem_append_left _ hp')) (fun p hp' => hr p (List.mem_append_left _ hp'))
          have hrest := g4 ρ (fun p hp' => hp p (List.mem_append_right _ hp')) (fun p hp' => hr p (List.mem_append_right _ hp'))
          refine ⟨(opsOV qs (extRT ps) x1).1, extsOf ps (opsOV qs (extRT ps) x1).2, rfl, hA5, ?_⟩
          have : (opsOV qs (extRT ps) x1).2 = x2 := a1
          rw [this]
          exact hrest

end Go.TM

/- The tree machine, part 33: a function keeps its contract (II). -/
namespace Go.TM
open Go Go.RowKit

/-- The slots of a function as it begins. -/
def start (n : Nat) (ps : List AP) (x : denR (headRT (ps.map some))) : St := slots 0 (heads (ps.map some) x ++ List.replicate (n - ps.length) none)

theorem heads_length : (l : List (Option AP)) → (x : denR (headRT l)) → (heads l x).length = l.length
  | [], _ => rfl
  | none :: l, x => by
    show (heads l x).length + 1 = l.length + 1
    rw [heads_length l x]
  | some p :: l, x => by
    show (heads l (p.av (headRT l) x).2).length + 1 = l.length + 1
    rw [heads_length l _]

/-- What is handed, in the patterns' own form. -/
theorem castAs_ok {c : Cz} {w : World} {lc : Nat → Nat → Loc} : (ps : List AP) → (i : Nat) → (avs : List AV) → (vs : List Value) → {x : denR (headRT (ps.map some))} → castAs ps avs = some x → HoldAs c w lc i avs vs →
    ps.length = avs.length ∧ ps.length = vs.length ∧ ∀ k av, (heads (ps.map some) x)[k]? = some (some av) → ∃ v, vs[k]? = some v ∧ HoldA c w (i + k) (lc (i + k)) av v
  | [], i, [], vs, x, hx, h => by
    have : vs = [] := h
    subst this
    exact ⟨rfl, rfl, fun k av hk => by
      have hk : ([] : List (Option AV))[k]? = some (some av) := hk
      simp at hk⟩
  | [], _, _ :: _, _, _, hx, _ => by simp [castAs] at hx
  | _ :: _, _, [], _, _, hx, _ => by simp [castAs] at hx
  | p :: ps, i, av :: avs, vs, x, hx, h => by
    obtain ⟨v, l, rfl, h1, h2⟩ := h
    unfold castAs at hx
    cases hy : castAs ps avs with
    | none => simp [hy] at hx
    | some y =>
      simp only [hy] at hx
      obtain ⟨g1, g2, g3⟩ := castAs_ok ps (i + 1) avs l hy h2
      obtain ⟨q1, q2⟩ := castA_ok (c := c) (w := w) (i := i) (lc := lc i) hx
      refine ⟨by simp [g1], by simp [g2], fun k av' hk => ?_⟩
      cases k with
      | zero =>
        have hk : some (some (p.av (headRT (ps.map some)) x).1) = some (some av') := hk
        simp only [Option.some.injEq] at hk
        subst hk
        exact ⟨v, rfl, q2 v h1⟩
      | succ k =>
        have hk : (heads (ps.map some) (p.av (headRT (ps.map some)) x).2)[k]? = some (some av') := hk
        rw [q1] at hk
        obtain ⟨v', h3, h4⟩ := g3 k av' hk
        exact ⟨v', by simpa using h3, by rw [show i + (k + 1) = i + 1 + k by omega]; exact h4⟩

/-- The places that are to stay. -/
def lendAncs (lc : Nat → Loc) (i : Nat) : (j : Nat) → List OV → List Anc
  | _, [] => []
  | j, .own A :: os => .arr i j 1 A.r.width A.xs.length (lc j) :: lendAncs lc i (j + 1) os
  | j, .int _ _ :: os => lendAncs lc i (j + 1) os
  | j, .bool _ :: os => lendAncs lc i (j + 1) os
  | j, .str _ :: os => lendAncs lc i (j + 1) os
  | j, .shr _ _ :: os => lendAncs lc i (j + 1) os
  | j, .nils :: os => lendAncs lc i (j + 1) os
theorem lendAncs_mem {lc : Nat → Loc} {i : Nat} : (os : List OV) → (j : Nat) → ∀ p ∈ lendAncs lc i j os, ∃ k A, os[k]? = some (.own A) ∧ p = .arr i (j + k) 1 A.r.width A.xs.length (lc (j + k))
  | [], j, p, h => by simp [lendAncs] at h
  | o :: os, j, p, h => by
    have rest : p ∈ lendAncs lc i (j + 1) os → ∃ k A, (o :: os)[k]? = some (.own A) ∧ p = .arr i (j + k) 1 A.r.width A.xs.length (lc (j + k)) := by
      intro h
      obtain ⟨k, A, h1, h2⟩ := lendAncs_mem os (j + 1) p h
      refine ⟨k + 1, A, by simpa using h1, ?_⟩
      rw [h2, show j + 1 + k = j + (k + 1) by omega]
    cases o with
    | own A =>
      rcases List.mem_cons.1 h with h | h
      · exact ⟨0, A, rfl, h⟩
      · exact rest h
    | _ => exact rest h
theorem lendAncs_of {lc : Nat → Loc} {i : Nat} : (os : List OV) → (j : Nat) → ∀ (k : Nat) (A : Arr), os[k]? = some (.own A) → Anc.arr i (j + k) 1 A.r.width A.xs.length (lc (j + k)) ∈ lendAncs lc i j os
  | [], j, k, A, h => by simp at h
  | o :: os, j, 0, A, h => by
    simp only [List.getElem?_cons_zero, Option.some.injEq] at h
    subst h
    exact List.mem_cons_self
  | o :: os, j, k + 1, A, h => by
    have := lendAncs_of (lc := lc) (i := i) os (j + 1) k A (by simpa using h)
    rw [show j + 1 + k = j + (k + 1) by omega] at this
    cases o with
    | own A => exact List.mem_cons_of_mem _ this
    | _ => exact this
def ancs (lc : Nat → Nat → Loc) : (i : Nat) → List AV → List Value → List Anc
  | _, [], _ => []
  | _, _ :: _, [] => []
  | i, .val _ _ :: as, _ :: vs => ancs lc (i + 1) as vs
  | i, .io A :: as, _ :: vs => .arr i 0 1 A.r.width A.xs.length (lc i 0) :: ancs lc (i + 1) as vs
  | i, .lend os :: as, _ :: vs => lendAncs (lc i) i 0 os ++ ancs lc (i + 1) as vs
  | i, .box _ :: as, v :: vs => .box i 1 (match v with | .pointer (some ad) => ad.block | _ => 0) :: ancs lc (i + 1) as vs

theorem ancs_mem {lc : Nat → Nat → Loc} : (i : Nat) → (as : List AV) → (vs : List Value) → ∀ p ∈ ancs lc i as vs, ∃ k av v, as[k]? = some av ∧ vs[k]? = some v ∧ ((∃ A, av = .io A ∧ p = .arr (i + k) 0 1 A.r.width A.xs.length (lc (i + k) 0)) ∨ (∃ os, av = .box os ∧ p = .box (i + k) 1 (match v with | .pointer (some ad) => ad.block | _ => 0)) ∨ ∃ os j A, av = .lend os ∧ os[j]? = some (.own A) ∧ p = .arr (i + k) j 1 A.r.width A.xs.length (lc (i + k) j))
  | _, [], _, p, h => by simp [ancs] at h
  | _, _ :: _, [], p, h => by simp [ancs] at h
  | i, .val _ _ :: as, _ :: vs, p, h => by
    obtain ⟨k, av, v, h1, h2, h3⟩ := ancs_mem (i + 1) as vs p h
    exact ⟨k + 1, av, v, by simpa using h1, by simpa using h2, by rw [show i + (k + 1) = i + 1 + k by omega]; exact h3⟩
  | i, .io A :: as, v0 :: vs, p, h => by
    rcases List.mem_cons.1 h with h | h
    · exact ⟨0, .io A, v0, rfl, rfl, .inl ⟨A, rfl, h⟩⟩
    · obtain ⟨k, av, v, h1, h2, h3⟩ := ancs_mem (i + 1) as vs p h
      exact ⟨k + 1, av, v, by simpa using h1, by simpa using h2, by rw [show i + (k + 1) = i + 1 + k by omega]; exact h3⟩
  | i, .box os :: as, v0 :: vs, p, h => by
    rcases List.mem_cons.1 h with h | h
    · exact ⟨0, .box os, v0, rfl, rfl, .inr (.inl ⟨os, rfl, h⟩)⟩
    · obtain ⟨k, av, v, h1, h2, h3⟩ := ancs_mem (i + 1) as vs p h
      exact ⟨k + 1, av, v, by simpa using h1, by simpa using h2, by rw [show i + (k + 1) = i + 1 + k by omega]; exact h3⟩
  | i, .lend os :: as, v0 :: vs, p, h => by
    rcases List.mem_append.1 h with h | h
    · obtain ⟨j, A, h1, h2⟩ := lendAncs_mem os 0 p h
      rw [Nat.zero_add] at h2
      exact ⟨0, .lend os, v0, rfl, rfl, .inr (.inr ⟨os, j, A, rfl, h1, h2⟩)⟩
    · obtain ⟨k, av, v, h1, h2, h3⟩ := ancs_mem (i + 1) as vs p h
      exact ⟨k + 1, av, v, by simpa using h1, by simpa using h2, by rw [show i + (k + 1) = i + 1 + k by omega]; exact h3⟩

theorem ancs_of {lc : Nat → Nat → Loc} : (i : Nat) → (as : List AV) → (vs : List Value) → as.length = vs.length → ∀ k av v, as[k]? = some av → vs[k]? = some v → (∀ A, av = .io A → Anc.arr (i + k) 0 1 A.r.width A.xs.length (lc (i + k) 0) ∈ ancs lc i as vs) ∧ (∀ os, av = .box os → Anc.box (i + k) 1 (match v with | .pointer (some ad) => ad.block | _ => 0) ∈ ancs lc i as vs) ∧ (∀ os, av = .lend os → ∀ j A, os[j]? = some (.own A) → Anc.arr (i + k) j 1 A.r.width A.xs.length (lc (i + k) j) ∈ ancs lc i as vs)
  | _, [], _, _, k, av, v, h, _ => by simp at h
  | _, _ :: _, [], hn, _, _, _, _, _ => by simp at hn
  | i, a0 :: as, v0 :: vs, hn, 0, av, v, h1, h2 => by
    simp only [List.getElem?_cons_zero, Option.some.injEq] at h1 h2
    subst h1 h2
    refine ⟨fun A e => ?_, fun os e => ?_, fun os e j A hj => ?_⟩
    · subst e; exact List.mem_cons_self
    · subst e; exact List.mem_cons_self
    · subst e
      have := lendAncs_of (lc := lc i) (i := i) os 0 j A hj
      rw [Nat.zero_add] at this
      exact List.mem_append_left _ this
  | i, a0 :: as, v0 :: vs, hn, k + 1, av, v, h1, h2 => by
    obtain ⟨g1, g2, g3⟩ := ancs_of (i + 1) as vs (by simpa using hn) k av v (by simpa using h1) (by simpa using h2)
    have e : i + (k + 1) = i + 1 + k := by omega
    rw [e]
    cases a0 with
    | val _ _ => exact ⟨g1, g2, g3⟩
    | io _ => exact ⟨fun A h => List.mem_cons_of_mem _ (g1 A h), fun os h => List.mem_cons_of_mem _ (g2 os h), fun os h j A hj => List.mem_cons_of_mem _ (g3 os h j A hj)⟩
    | box _ => exact ⟨fun A h => List.mem_cons_of_mem _ (g1 A h), fun os h => List.mem_cons_of_mem _ (g2 os h), fun os h j A hj => List.mem_cons_of_mem _ (g3 os h j A hj)⟩
    | lend _ => exact ⟨fun A h => List.mem_append_right _ (g1 A h), fun os h => List.mem_append_right _ (g2 os h), fun os h j A hj => List.mem_append_right _ (g3 os h j A hj)⟩

/-- What a function's anchors are: its lent parameters. -/
def AnShape (ps : List AP) (mu : Mu) : Prop :=
  ∀ p ∈ mu.an, (∃ i r W n l, p = .arr i 0 1 W n l ∧ ps[i]? = some (.io r)) ∨ (∃ i blk b qs, p = .box i 1 blk ∧ ps[i]? = some (.box b qs)) ∨ ∃ i j W n l qs, p = .arr i j 1 W n l ∧ ps[i]? = some (.lend qs)

theorem castOs_own : (ps : List OP) → (t : RT) → (os : List OV) → (y : denR t) → {x : denR (opsRT ps t)} → castOs ps t os y = some x → ∀ (j : Nat) (A : Arr), os[j]? = some (.own A) → (∃ r, ps[j]? = some (.own r)) ∧ ∃ B : Arr, (opsOV ps t x).1[j]? = some (.own B) ∧ B.r.width = A.r.width ∧ B.xs.length = A.xs.length
  | [], t, [], y, x, h => by intro k A hk; simp at hk
  | [], _, _ :: _, _, _, h => by simp [castOs] at h
  | _ :: _, _, [], _, _, h => by simp [castOs] at h
  | p :: ps, t, o :: os, y, x, h => by
    unfold castOs at h
    cases h1 : castO p o with
    | none => simp [h1] at h
    | some a =>
      cases h2 : castOs ps t os y with
      | none => simp [h1, h2] at h
      | some z =>
        simp only [h1, h2] at h
        have h : (a, z) = x := Option.some.inj h
        subst h
        intro j A hj
        cases j with
        | succ j =>
          obtain ⟨⟨r, q1⟩, B, q2, q3⟩ := castOs_own ps t os y h2 j A (by simpa using hj)
          exact ⟨⟨r, by simpa using q1⟩, B, (by show (opsOV ps t z).1[j]? = _; exact q2), q3⟩
        | zero =>
          simp only [List.getElem?_cons_zero, Option.some.injEq] at hj
          subst hj
          cases p with
          | own r =>
            have h1 : castL r A.xs = some a := h1
            obtain ⟨er, exs⟩ := castL_some h1
            refine ⟨⟨r, rfl⟩, { r := r, own := true, xs := a }, rfl, by show r.width = _; rw [← er], ?_⟩
            show List.length (a : List (denR r)) = _
            rw [exs]
            cases er
            rfl
          | _ => cases h1

/-- The patterns' forms are the arguments'. -/
theorem castAs_form : (ps : List AP) → (avs : List AV) → {x : denR (headRT (ps.map some))} → castAs ps avs = some x → ∀ (k : Nat) (av : AV), avs[k]? = some av → ∃ p : AP, ps[k]? = some p ∧ match p, av with
    | .io _, .io A => ∃ B : Arr, (heads (ps.map some) x)[k]? = some (some (.io B)) ∧ B.r.width = A.r.width ∧ B.xs.length = A.xs.length
    | .box _ _, .box _ => True
    | .val _ _, .val _ _ => True
    | .lend qs, .lend os => ∃ os' : List OV, (heads (ps.map some) x)[k]? = some (some (AV.lend os')) ∧ ∀ (j : Nat) (A : Arr), os[j]? = some (OV.own A) → (∃ r, qs[j]? = some (OP.own r)) ∧ ∃ B : Arr, os'[j]? = some (OV.own B) ∧ B.r.width = A.r.width ∧ B.xs.length = A.xs.length
    | _, _ => False
  | [], [], _, _ => by intro k av h; simp at h
  | [], _ :: _, _, hx => by simp [castAs] at hx
  | _ :: _, [], _, hx => by simp [castAs] at hx
  | p :: ps, av :: avs, x, hx => by
    unfold castAs at hx
    cases hy : castAs ps avs with
    | none => simp [hy] at hx
    | some y =>
      simp only [hy] at hx
      have e2 : (p.av (headRT (ps.map some)) x).2 = y := (castA_ok (c := ⟨fun _ => 0, fun _ _ => .nil, fun _ => none⟩) (w := default) (i := 0) (lc := fun _ => .nil) hx).1
      intro k av' hk
      cases k with
      | zero =>
        simp only [List.getElem?_cons_zero, Option.some.injEq] at hk
        subst hk
        refine ⟨p, rfl, ?_⟩
        cases p with
        | val agg qs => cases av with
          | val _ _ => trivial
          | io _ => cases agg <;> cases hx
          | box _ => cases agg <;> cases hx
          | lend _ => cases agg <;> cases hx
        | io r => cases av with
          | val _ _ => cases hx
          | box _ => cases hx
          | lend _ => cases hx
          | io A =>
            have hx : (match castL r A.xs with | some xs => some ((xs, y) : denR (.cons (.sl r) (headRT (ps.map some)))) | none => none) = some x := hx
            cases hc : castL r A.xs with
            | none => rw [hc] at hx; cases hx
            | some xs =>
              rw [hc] at hx
              injection hx with hx
              obtain ⟨er, exs⟩ := castL_some hc
              refine ⟨{ r := r, own := true, xs := x.1 }, rfl, by show r.width = _; rw [← er], ?_⟩
              show List.length (x.1 : List (denR r)) = _
              rw [← hx]
              show xs.length = _
              rw [exs]
              cases er
              rfl
        | box b qs => cases av with
          | val _ _ => cases hx
          | io _ => cases hx
          | lend _ => cases hx
          | box _ => trivial
        | lend qs => cases av with
          | val _ _ => cases hx
          | io _ => cases hx
          | box _ => cases hx
          | lend os =>
            have hx : castOs qs (headRT (ps.map some)) os y = some x := hx
            exact ⟨_, rfl, castOs_own qs _ os y hx⟩
      | succ k =>
        obtain ⟨p', h1, h2⟩ := castAs_form ps avs hy k av' (by simpa using hk)
        refine ⟨p', by simpa using h1, ?_⟩
        have eh : (heads ((p :: ps).map some) x)[k + 1]? = (heads (ps.map some) y)[k]? := by
          show (heads (ps.map some) (p.av (headRT (ps.map some)) x).2)[k]? = _
          rw [e2]
        cases p' <;> cases av' <;> simp only at h2 ⊢ <;> (try exact h2)
        · obtain ⟨B, q1, q2, q3⟩ := h2
          exact ⟨B, eh.trans q1, q2, q3⟩
        · obtain ⟨os', q1, q2⟩ := h2
          exact ⟨os', eh.trans q1, q2⟩

end Go.TM

/- The tree machine, part 34: a function keeps its contract (III). -/
namespace Go.TM
open Go Go.RowKit

theorem run_results {P : Program} {fn : Func} {tm : Array Value} {w : World} {vals : List Value} (h : (fn.results.toList.mapM (oneRes tm)).run P w = .ok vals w) :
    (results fn tm).run P w = .ok (if hs : vals.toArray.size = 1 then vals.toArray[0] else .tuple vals.toArray) w := by
  have e : results fn tm = (do let vs ← fn.results.mapM (oneRes tm); pure (if h : vs.size = 1 then vs[0] else .tuple vs) : Sem Value) := rfl
  rw [e, Array.mapM_eq_mapM_toList]
  simp [Sem.run_bind, h]

/-- What a call finds as it begins. -/
theorem start_ok {c : Cz} {w : World} {mu : Mu} {lc : Nat → Nat → Loc} {avs : List AV} {args : Array Value} (hH : Handed c w mu) (hA : HoldAs c w lc 0 avs args.toList) {ps : List AP} {x : denR (headRT (ps.map some))} (hx : castAs ps avs = some x) {n : Nat} (hn : ps.length ≤ n) :
    ∃ (mu2 : Mu) (c' : Cz), mu2.m = mu.m ∧ mu2.ok = mu.ok ∧ AnShape ps mu2 ∧ LentOk mu2 lc 0 ps avs args.toList ∧ args.size = ps.length ∧ avs.length = ps.length ∧
      Rel w mu2 c' (start n ps x) { tmps := args ++ Array.replicate (n - args.size) undef, defers := [] } w := by
  obtain ⟨l1, l2, hold⟩ := castAs_ok ps 0 avs args.toList hx hA
  have hform := castAs_form ps avs hx
  have hargs : args.size = ps.length := by rw [l2]; simp
  let a : Act := { tmps := args ++ Array.replicate (n - args.size) undef, defers := [] }
  have heval : ∀ k v, args.toList[k]? = some v → a.eval (.tmp k) = v := by
    intro k v hk
    have hlt : k < args.size := by
      have := (List.getElem?_eq_some_iff.1 hk).1
      simpa using this
    show (args ++ Array.replicate (n - args.size) undef).getD k undef = v
    rw [Array.getD_eq_getD_getElem?, Array.getElem?_append_left hlt]
    rw [Array.getElem?_toList] at hk
    rw [hk]; rfl
  let mu2 : Mu := { m := mu.m, ok := mu.ok, an := ancs lc 0 avs args.toList }
  have hlen : (heads (ps.map some) x ++ List.replicate (n - ps.length) none).length = n := by
    rw [List.length_append, heads_length]; simp; omega
  have hget : ∀ (i : Nat) (av : AV), (heads (ps.map some) x ++ List.replicate (n - ps.length) none)[i]? = some (some av) → (heads (ps.map some) x)[i]? = some (some av) := by
    intro i av hi
    by_cases h : i < (heads (ps.map some) x).length
    · rwa [List.getElem?_append_left h] at hi
    · rw [List.getElem?_append_right (by omega), List.getElem?_replicate] at hi
      split at hi <;> simp at hi
  have hbas : Bas w mu2 c w := ⟨fun b l hb => ⟨hH.lt b l hb, (hH.lb b l hb).imp id fun hh => .inr ((hH.m b).2 ⟨l, hb, hh⟩)⟩, fun b _ hb => .inr ((hH.ok b).2 hb), ⟨rfl, rfl, rfl, Nat.le_refl _⟩, fun _ _ _ => rfl⟩
  have hslots : HoldSlots c w lc a 0 (heads (ps.map some) x ++ List.replicate (n - ps.length) none) := by
    intro i av hi
    obtain ⟨v, h1, h2⟩ := hold i av (hget i av hi)
    have := heval i v h1
    rw [Nat.zero_add] at h2 ⊢
    rw [this]
    exact h2
  -- each argument and its pattern
  have hboth : ∀ k av v, avs[k]? = some av → args.toList[k]? = some v → HoldA c w k (lc k) av v := by
    have key : ∀ (avs : List AV) (i : Nat) (vs : List Value), HoldAs c w lc i avs vs → ∀ k av v, avs[k]? = some av → vs[k]? = some v → HoldA c w (i + k) (lc (i + k)) av v := by
      intro avs
      induction avs with
      | nil => intro i vs _ k av v h; simp at h
      | cons a0 avs ih =>
        intro i vs h k av v h1 h2
        obtain ⟨v0, l, rfl, g1, g2⟩ := h
        cases k with
        | zero => simp at h1 h2; subst h1 h2; exact g1
        | succ k =>
          have := ih (i + 1) l g2 k av v (by simpa using h1) (by simpa using h2)
          rwa [show i + 1 + k = i + (k + 1) by omega] at this
    intro k av v h1 h2
    have := key avs 0 args.toList hA k av v h1 h2
    rwa [Nat.zero_add] at this
  have hfits : ∀ p ∈ mu2.an, AnFits (heads (ps.map some) x ++ List.replicate (n - ps.length) none) lc a p := by
    intro p hp
    obtain ⟨k, av, v, h1, h2, h3⟩ := ancs_mem 0 avs args.toList p hp
    have hk : k < ps.length := by rw [l1]; exact (List.getElem?_eq_some_iff.1 h1).1
    simp only [Nat.zero_add] at h3
    obtain ⟨p', q1, q2⟩ := hform k av h1
    rcases h3 with ⟨A, rfl, rfl⟩ | ⟨os, rfl, rfl⟩ | ⟨os, j, A, rfl, hj, rfl⟩
    · refine ⟨rfl, by rw [hlen]; omega, fun av' hav' => .inl ?_⟩
      cases p' with
      | io r =>
        obtain ⟨B, e1, e2, e3⟩ := q2
        have := hget k av' hav'
        rw [e1] at this
        simp only [Option.some.injEq] at this
        exact ⟨B, this.symm, fun _ => ⟨e2, e3, rfl⟩⟩
      | val _ _ => exact q2.elim
      | box _ _ => exact q2.elim
      | lend _ => exact q2.elim
    · refine ⟨rfl, by rw [hlen]; omega, fun os' _ => ?_⟩
      obtain ⟨blk, vs, ty, e1, _⟩ := hboth k _ v h1 h2
      rw [heval k v h2, e1]
    · refine ⟨rfl, by rw [hlen]; omega, fun av' hav' => .inr ?_⟩
      cases p' with
      | io r => exact q2.elim
      | val _ _ => exact q2.elim
      | box _ _ => exact q2.elim
      | lend qs =>
        obtain ⟨os', e1, e2⟩ := q2
        have := hget k av' hav'
        rw [e1] at this
        simp only [Option.some.injEq] at this
        obtain ⟨_, B, e3, e4, e5⟩ := e2 j A hj
        refine ⟨os', this.symm, fun A' hA' => ?_⟩
        rw [e3] at hA'
        injection hA' with hA'
        injection hA' with hA'
        subst hA'
        exact ⟨e4, e5, rfl⟩
  obtain ⟨c', hR⟩ := Rel.scratch (a := a) hbas rfl hslots hfits
  refine ⟨mu2, c', rfl, rfl, fun p hp => ?_, fun k p av v h0 h1 h2 => ?_, hargs, l1.symm, hR⟩
  · obtain ⟨k, av, v, h1, h2, h3⟩ := ancs_mem 0 avs args.toList p hp
    simp only [Nat.zero_add] at h3
    obtain ⟨p', q1, q2⟩ := hform k av h1
    rcases h3 with ⟨A, rfl, rfl⟩ | ⟨os, rfl, rfl⟩ | ⟨os, j, A, rfl, hj, rfl⟩
    · cases p' with
      | io r => exact .inl ⟨k, r, _, _, _, rfl, q1⟩
      | val _ _ => exact q2.elim
      | box _ _ => exact q2.elim
      | lend _ => exact q2.elim
    · cases p' with
      | io r => exact q2.elim
      | val _ _ => exact q2.elim
      | box b qs => exact .inr (.inl ⟨k, _, b, qs, rfl, q1⟩)
      | lend _ => exact q2.elim
    · cases p' with
      | io r => exact q2.elim
      | val _ _ => exact q2.elim
      | box b qs => exact q2.elim
      | lend qs => exact .inr (.inr ⟨k, j, _, _, _, qs, rfl, q1⟩)
  · obtain ⟨p', q1, q2⟩ := hform k av h1
    rw [h0] at q1
    cases q1
    have hh := hboth k av v h1 h2
    obtain ⟨a1, a2, a3⟩ := ancs_of (lc := lc) 0 avs args.toList (by rw [← l1, l2]) k av v h1 h2
    rw [Nat.zero_add] at a1 a2 a3 ⊢
    cases p with
    | val _ _ => cases av with
      | val _ _ => trivial
      | io _ => exact q2.elim
      | box _ => exact q2.elim
      | lend _ => exact q2.elim
    | lend qs => cases av with
      | val _ _ => exact q2.elim
      | io _ => exact q2.elim
      | box _ => exact q2.elim
      | lend os =>
        obtain ⟨us, rfl, hl, hloc⟩ := hh
        obtain ⟨os', _, e2⟩ := q2
        obtain ⟨n1, _⟩ := HoldL.nthc os 0 _ hl
        refine ⟨us, rfl, fun j A hj => ⟨(e2 j A hj).1, ?_⟩⟩
        have hlt : j < us.toList.length := by rw [n1]; exact (List.getElem?_eq_some_iff.1 hj).1
        have hO : OwnAt c w (.pend k j) (lc k j) A us.toList[j] := hloc j _ _ hj (List.getElem?_eq_getElem hlt)
        exact ⟨_, List.getElem?_eq_getElem hlt, hO.1, hO.2.1, a3 os rfl j A hj⟩
    | io r => cases av with
      | val _ _ => exact q2.elim
      | box _ => exact q2.elim
      | lend _ => exact q2.elim
      | io A =>
        have hO : OwnAt c w (.pend k 0) (lc k 0) A v := hh
        exact ⟨hO.1, hO.2.1, a1 A rfl⟩
    | box _ _ => cases av with
      | val _ _ => exact q2.elim
      | io _ => exact q2.elim
      | lend _ => exact q2.elim
      | box os =>
        obtain ⟨blk, vs, ty, e1, _⟩ := hh
        refine ⟨blk, e1, ?_⟩
        have := a2 os rfl
        rw [e1] at this
        exact this

/-- What a call leaves. -/
theorem fin_ok {P : Program} {T : Tab} (hT : TabOk P T) {w0 : World} {mu mu2 : Mu} (hm : mu2.m = mu.m) (hok : mu2.ok = mu.ok) {c : Cz} {st : St} {a : Act} {w : World} (h : Rel w0 mu2 c st a w) {fn : Func} {ps : List AP} {rs : List RP} (hrs : ResFit T a.tmps fn.results.toList rs)
    {lc : Nat → Nat → Loc} {avs : List AV} {vs : List Value} (h1 : ps.length = avs.length) (h2 : ps.length = vs.length) (hl : LentOk mu2 lc 0 ps avs vs) {e : Ex} {y : denR (resRT rs (extRT ps))} (hf : finK rs ps e st = some y) :
    (e = .normal ∨ e = .ret) ∧ ∃ v, (results fn a.tmps).run P w = .ok v w ∧ ∃ c', Bas w0 mu c' w ∧ HoldV c' w (outsOf rs (extRT ps) y).1 v ∧ HoldX c' w lc 0 avs vs (extsOf ps (outsOf rs (extRT ps) y).2) := by
  have he : e = .normal ∨ e = .ret := by
    cases e with
    | normal => exact .inl rfl
    | ret => exact .inr rfl
    | exit m => cases hf
  refine ⟨he, ?_⟩
  have hf : ((packXs st 0 ps).bind fun x => (packRs st rs (extRT ps) x.1).bind fun q => bif noTwice (somes q.2.1 ++ x.2.1) && apart (somes q.2.1 ++ x.2.1) (q.2.2 ++ x.2.2) then some q.1 else none) = some y := by
    rcases he with rfl | rfl <;> exact hf
  obtain ⟨qx, hqx, hf⟩ := Option.bind_eq_some_iff.1 hf
  obtain ⟨qr, hqr, hf⟩ := Option.bind_eq_some_iff.1 hf
  obtain ⟨hchk, hy⟩ := bif_some hf
  injection hy with hy
  obtain ⟨x1, u1, r1⟩ := qx
  obtain ⟨x2, u2, r2⟩ := qr
  subst hy
  rw [Bool.and_eq_true] at hchk
  obtain ⟨a1, tb, a2, a3, a4⟩ := packXs_ok h ps 0 avs vs h1 h2 hl hqx
  obtain ⟨b1, b2, b3, vals, b4, b5, b6⟩ := packRs_ok hT h fn.results.toList rs hrs (extRT ps) x1 hqr
  have hreal : ∀ l ∈ somes u2 ++ u1, l.real = true := fun l hl => (List.mem_append.1 hl).elim (b3 l) (a1 l)
  have hnd := noTwice_nodup _ hreal hchk.1
  have hap : ∀ p ∈ r2 ++ r1, Lb.sp p.1 p.2 ∉ somes u2 ++ u1 := by
    intro p hp hm
    have h1 := List.all_eq_true.1 hchk.2 p hp
    have h2 := List.all_eq_true.1 h1 _ hm
    rw [(Lb.same_iff rfl).2 rfl] at h2
    cases h2
  let tab := numb .pres 0 u2 ++ tb
  have htab : tab.map (·.1) = somes u2 ++ u1 := by show (numb .pres 0 u2 ++ tb).map _ = _; rw [List.map_append, numb_fst, a2]
  have hcl := Classical.propDecidable
  let ρ : Lb → Option Lb := fun l => match look tab l with | some y => some y | none => if l = .out then some .out else none
  have hρt : ∀ p ∈ tab, ρ p.1 = some p.2 := by
    intro p hp
    have := look_mem tab (by rw [htab]; exact hnd) hp
    show (match look tab p.1 with | some y => some y | none => _) = _
    rw [this]
  have hlook : ∀ {l y}, look tab l = some y → l ∈ somes u2 ++ u1 := by
    intro l y hl
    have := look_some tab hl
    rw [← htab]
    exact List.mem_map.2 ⟨_, this, rfl⟩
  have hρr : ∀ p ∈ r2 ++ r1, ρ (.sp p.1 p.2) = none := by
    intro p hp
    show (match look tab (.sp p.1 p.2) with | some y => some y | none => if Lb.sp p.1 p.2 = .out then some Lb.out else none) = none
    cases hl : look tab (.sp p.1 p.2) with
    | some y => exact absurd (hlook hl) (hap p hp)
    | none => simp
  have hρo : ρ .out = some .out := by
    show (match look tab Lb.out with | some y => some y | none => if Lb.out = Lb.out then some Lb.out else none) = _
    cases hl : look tab Lb.out with
    | some y => have := hreal _ (hlook hl); cases this
    | none => simp
  have hbas : Bas w0 mu (c.map ρ) w := by
    refine ⟨fun b l hb => ?_, fun b hb hn => ?_, h.kept, by rw [← hm]; exact h.old⟩
    · obtain ⟨k, hk, e⟩ := Cz.map_some hb
      obtain ⟨g1, g2⟩ := h.owned b k hk
      refine ⟨g1, ?_⟩
      rw [← hm]
      refine g2.imp (fun e2 => ?_) id
      subst e2
      rw [hρo] at e
      cases e; rfl
    · rw [← hm, ← hok]
      cases hk : c.own b with
      | none => exact h.free b hb hk
      | some k =>
        have e : ρ k = none := (Cz.map_own (ρ := ρ) hk).symm.trans hn
        rcases (h.owned b k hk).2 with g | g | g
        · subst g; rw [hρo] at e; cases e
        · exact absurd g (Nat.not_le_of_lt hb)
        · exact .inl g
  have hX := a4 ρ (fun p hp => hρt p (List.mem_append_right _ hp)) (fun p hp => hρr p (List.mem_append_right _ hp))
  have hR := b6 ρ 0 (fun k l hk => by
    have := hρt _ (List.mem_append_left tb (numb_get .pres 0 u2 k l hk))
    exact this) (fun p hp => hρr p (List.mem_append_left _ hp))
  refine ⟨_, run_results b4, c.map ρ, hbas, ?_, by rw [b1]; exact hX⟩
  have hlen : vals.length = (outsOf rs (extRT ps) x2).1.length := by
    have : rs.length = fn.results.toList.length := by
      have key : ∀ (l : List ResultVar) (m : List RP), ResFit T a.tmps l m → m.length = l.length := by
        intro l
        induction l with
        | nil => intro m hm; cases m with
          | nil => rfl
          | cons _ _ => exact hm.elim
        | cons v l ih => intro m hm; cases m with
          | nil => exact hm.elim
          | cons r m => simp [ih m hm.2]
      exact key _ _ hrs
    rw [b5, b2, this]
  by_cases hs : vals.toArray.size = 1
  · rw [dif_pos hs]
    have hs' : vals.length = 1 := by simpa using hs
    obtain ⟨v, rfl⟩ : ∃ v, vals = [v] := by
      cases vals with
      | nil => cases hs'
      | cons v l => cases l with
        | nil => exact ⟨v, rfl⟩
        | cons _ _ => simp at hs'
    rw [hs'] at hlen
    cases ho : (outsOf rs (extRT ps) x2).1 with
    | nil => rw [ho] at hlen; cases hlen
    | cons r l => cases l with
      | cons _ _ => rw [ho] at hlen; simp at hlen
      | nil =>
        rw [ho] at hR
        exact .inl ⟨r, rfl, hR⟩
  · rw [dif_neg hs]
    refine .inr ⟨by rw [← hlen]; simpa using hs, vals.toArray, rfl, by simpa using hR⟩

/-- A function keeps its contract, if its body, from a state that tells the same, comes to what is said. -/
theorem fn_ok_at {P : Program} {T : Tab} (hT : TabOk P T) (hE : EqOk P T) {S : Sems} (hS : SemsOk P S) {D : Draws} {f : FuncId} {fn : Func} {code : Code} {n : Nat} {ps : List AP} {rs : List RP} {L : Loops (denR (resRT rs (extRT ps)))} {okD : Nat → Array Oper → Prop}
    {t : denR (headRT (ps.map some)) → Option (denR (resRT rs (extRT ps)))}
    (hf : P.funcs[f]? = some fn) (hb : fn.body = some code) (hn : fn.ntmps = n) (hps : ps.length ≤ n) (hdst : codeDst n code = true) (hres : ∀ tm, ResFit T tm fn.results.toList rs)
    (hL : ∀ (w0 : World) (mu : Mu) (y : denR (resRT rs (extRT ps))), AnShape ps mu → codeLoops (LoopAt P w0 mu n L y) code)
    (hD : ∀ (w0 : World) (mu : Mu), DrawSound (denR (resRT rs (extRT ps))) P T S D w0 mu n okD) (hD2 : codeDraw okD code)
    (hsem : ∀ (w0 : World) (mu : Mu) (c : Cz) (a : Act) (w : World) x, Rel w0 mu c (start n ps x) a w → a.tmps.size = n → ∃ c2 st2, Rel w0 mu c2 st2 a w ∧ codeK T S D L code st2 (finK rs ps) = t x) : FnOk P f (semOf ps rs t) := by
  intro c w mu lc avs args A y hH hA hs ho
  unfold semOf at hs
  cases hx : castAs ps avs with
  | none => rw [hx] at hs; cases hs
  | some x =>
    rw [hx] at hs
    simp only [Option.some.injEq] at hs
    subst hs
    have hty : t x = some y := ho
    obtain ⟨mu2, c', hm, hok, hshape, hlent, hargs, havs, hR⟩ := start_ok hH hA hx hps
    refine calls_of_wp hf hb ?_
    rw [hn]
    have hsz : (args ++ Array.replicate (n - args.size) undef).size = n := by simp; omega
    obtain ⟨c2, st2, hR2, hsem2⟩ := hsem w mu2 c' _ w x hR hsz
    refine codeK_ok (opSound hT hE hS w mu2 n) (hD w mu2) code hdst (hL w mu2 y hshape) hD2 (fun {e} {c1} {st1} {a1} {w1} h1 h2 h3 => ?_) hR2 hsz (hsem2.trans hty)
    obtain ⟨he, v, hrun, c2, hb2, hV, hX⟩ := fin_ok (P := P) hT hm hok h1 (hres a1.tmps) havs.symm (by rw [← hargs]; simp) hlent h3
    have hpost : a1.defers = [] ∧ ∃ v, (results fn a1.tmps).run P w1 = .ok v w1 ∧ (∃ v', Ending.returned v = .returned v' ∧ ∃ c', Bas w mu c' w1 ∧ HoldV c' w1 (outsOf rs (extRT ps) y).1 v' ∧ HoldX c' w1 lc 0 avs args.toList (extsOf ps (outsOf rs (extRT ps) y).2)) :=
      ⟨h1.plain, v, hrun, v, rfl, c2, hb2, hV, hX⟩
    rcases he with rfl | rfl <;> exact hpost

/-- A FUNCTION KEEPS ITS CONTRACT, if its body comes to what is said. -/
theorem fn_ok {P : Program} {T : Tab} (hT : TabOk P T) (hE : EqOk P T) {S : Sems} (hS : SemsOk P S) {D : Draws} {f : FuncId} {fn : Func} {code : Code} {n : Nat} {ps : List AP} {rs : List RP} {L : Loops (denR (resRT rs (extRT ps)))} {okD : Nat → Array Oper → Prop}
    {t : denR (headRT (ps.map some)) → Option (denR (resRT rs (extRT ps)))}
    (hf : P.funcs[f]? = some fn) (hb : fn.body = some code) (hn : fn.ntmps = n) (hps : ps.length ≤ n) (hdst : codeDst n code = true) (hres : ∀ tm, ResFit T tm fn.results.toList rs)
    (hL : ∀ (w0 : World) (mu : Mu) (y : denR (resRT rs (extRT ps))), AnShape ps mu → codeLoops (LoopAt P w0 mu n L y) code)
    (hD : ∀ (w0 : World) (mu : Mu), DrawSound (denR (resRT rs (extRT ps))) P T S D w0 mu n okD) (hD2 : codeDraw okD code)
    (hsem : ∀ x, codeK T S D L code (start n ps x) (finK rs ps) = t x) : FnOk P f (semOf ps rs t) :=
  fn_ok_at hT hE hS hf hb hn hps hdst hres hL hD hD2 (fun _ _ c _ _ x h _ => ⟨c, _, h, hsem x⟩)

end Go.TM

/- The tree machine, part 35: loops. -/
namespace Go.TM
open Go Go.RowKit

def iter {X E : Type} (round : X → Option (Sum X E)) : Nat → X → Option E
  | 0, _ => none
  | n + 1, x => match round x with
    | some (.inl y) => iter round n y
    | some (.inr e) => some e
    | none => none

theorem iter_mono {X E : Type} {round : X → Option (Sum X E)} : (n : Nat) → {x : X} → {e : E} → iter round n x = some e → ∀ m, n ≤ m → iter round m x = some e
  | 0, _, _, h, _, _ => by cases h
  | n + 1, x, e, h, 0, hm => by omega
  | n + 1, x, e, h, m + 1, hm => by
    unfold iter at h ⊢
    cases hr : round x with
    | none => rw [hr] at h; cases h
    | some z => cases z with
      | inl y => rw [hr] at h; exact iter_mono n h m (by omega)
      | inr e' => rw [hr] at h; exact h

/-- What a loop comes to. -/
noncomputable def loopV {X E : Type} (round : X → Option (Sum X E)) (x : X) : Option E :=
  have := Classical.propDecidable (∃ e n, iter round n x = some e)
  if h : ∃ e n, iter round n x = some e then some (Classical.choose h) else none

theorem loopV_of {X E : Type} {round : X → Option (Sum X E)} {x : X} {e : E} {n : Nat} (h : iter round n x = some e) : loopV round x = some e := by
  have hex : ∃ e n, iter round n x = some e := ⟨e, n, h⟩
  unfold loopV
  simp only
  rw [dif_pos hex]
  obtain ⟨m, hm⟩ := Classical.choose_spec hex
  have h1 := iter_mono m hm (max m n) (Nat.le_max_left _ _)
  have h2 := iter_mono n h (max m n) (Nat.le_max_right _ _)
  rw [h1] at h2
  exact h2

theorem loopV_some {X E : Type} {round : X → Option (Sum X E)} {x : X} {e : E} (h : loopV round x = some e) : ∃ n, iter round n x = some e := by
  unfold loopV at h
  simp only at h
  split at h
  · rename_i hex
    injection h with h
    rw [← h]
    exact Classical.choose_spec hex
  · cases h

/-- One round more. -/
theorem loopV_eq {X E : Type} (round : X → Option (Sum X E)) (x : X) : loopV round x = match round x with | some (.inl y) => loopV round y | some (.inr e) => some e | none => none := by
  cases hr : round x with
  | none =>
    cases h : loopV round x with
    | none => rfl
    | some e =>
      obtain ⟨n, hn⟩ := loopV_some h
      cases n with
      | zero => cases hn
      | succ n => unfold iter at hn; rw [hr] at hn; cases hn
  | some z => cases z with
    | inr e => exact loopV_of (n := 1) (by unfold iter; rw [hr])
    | inl y =>
      simp only
      cases h : loopV round y with
      | some e =>
        obtain ⟨n, hn⟩ := loopV_some h
        exact loopV_of (n := n + 1) (by unfold iter; rw [hr]; exact hn)
      | none =>
        cases h2 : loopV round x with
        | none => rfl
        | some e =>
          obtain ⟨n, hn⟩ := loopV_some h2
          cases n with
          | zero => cases hn
          | succ n =>
            unfold iter at hn
            rw [hr] at hn
            rw [loopV_of hn] at h
            cases h

/-- A state's data, in a pattern. -/
def packH (st : St) (hp : List (Option AP)) : Option (denR (headRT hp)) :=
  (packHead st 0 hp).bind fun q => bif noTwice q.2.1 && apart q.2.1 q.2.2 then some q.1 else none
def headSt (hp : List (Option AP)) (x : denR (headRT hp)) : St := slots 0 (heads hp x)

/-- Are lent parameters where they were? -/
def headFit : List AP → List (Option AP) → Bool
  | [], _ => true
  | .val _ _ :: ps, _ :: hp => headFit ps hp
  | .io _ :: ps, o :: hp => (match o with | none => true | some (.io _) => true | _ => false) && headFit ps hp
  | .box _ _ :: ps, o :: hp => (match o with | none => true | some (.box l _) => l | some (.val _ _) => true | _ => false) && headFit ps hp
  | .lend _ :: _, _ :: _ => false
  | _ :: _, [] => false

theorem headFit_at : (ps : List AP) → (hp : List (Option AP)) → headFit ps hp = true → ∀ (i : Nat) (p : AP), ps[i]? = some p → ∃ o, hp[i]? = some o ∧ match p with
    | .val _ _ => True
    | .io _ => o = none ∨ ∃ r, o = some (.io r)
    | .box _ _ => o = none ∨ (∃ a b, o = some (.val a b)) ∨ ∃ b, o = some (.box true b)
    | .lend _ => False
  | [], _, _ => by intro i p h; simp at h
  | p :: ps, [], h => by cases p <;> simp [headFit] at h
  | p :: ps, o :: hp, h => by
    intro i p' hi
    have hrest : headFit ps hp = true := by
      cases p with
      | val _ _ => exact h
      | io _ => unfold headFit at h; rw [Bool.and_eq_true] at h; exact h.2
      | lend _ => cases h
      | box _ _ => unfold headFit at h; rw [Bool.and_eq_true] at h; exact h.2
    cases i with
    | succ i => exact (headFit_at ps hp hrest i p' (by simpa using hi)).imp fun o ho => ⟨by simpa using ho.1, ho.2⟩
    | zero =>
      simp only [List.getElem?_cons_zero, Option.some.injEq] at hi
      subst hi
      refine ⟨o, rfl, ?_⟩
      cases p with
      | val _ _ => trivial
      | lend _ => cases h
      | io _ =>
        unfold headFit at h; rw [Bool.and_eq_true] at h
        cases o with
        | none => exact .inl rfl
        | some q => cases q with
          | io r => exact .inr ⟨r, rfl⟩
          | val _ _ => cases h.1
          | box _ _ => cases h.1
          | lend _ => cases h.1
      | box _ _ =>
        unfold headFit at h; rw [Bool.and_eq_true] at h
        cases o with
        | none => exact .inl rfl
        | some q => cases q with
          | io r => cases h.1
          | lend _ => cases h.1
          | val a b => exact .inr (.inl ⟨a, b, rfl⟩)
          | box l b =>
            have : l = true := h.1
            subst this
            exact .inr (.inr ⟨b, rfl⟩)

end Go.TM

/- The tree machine, part 36: loops (II). -/
namespace Go.TM
open Go Go.RowKit

theorem packA_io {st : St} {k : Nat} {rr t : RT} {V : V} {y : denR t} {x : denR (.cons (.sl rr) t)} {u : List Lb} {r : List (Nat × Nat)} (h : packA st k (.io rr) t V y = some (x, u, r)) : ∃ A, arr? st k 0 1 = some A ∧ castL rr A.xs = some x.1 := by
  cases V with
  | agg _ => cases h
  | tup _ => cases h
  | one cx => cases cx with
    | ref a j g vw => cases vw with
      | full =>
        have h : (bif Nat.beq a k && (Nat.beq j 0 && Nat.beq g 1) then ((arr? st a j g).bind fun A => bif A.own then (castL rr A.xs).map fun xs => ((xs, y), [Lb.sp a j], ([] : List (Nat × Nat))) else none) else none) = some (x, u, r) := h
        obtain ⟨h1, h2⟩ := bif_some h
        rw [Bool.and_eq_true, Bool.and_eq_true] at h1
        have e1 := Nat.eq_of_beq_eq_true h1.1
        have e2 := Nat.eq_of_beq_eq_true h1.2.1
        have e3 := Nat.eq_of_beq_eq_true h1.2.2
        subst e1 e2 e3
        obtain ⟨A, hA, h3⟩ := Option.bind_eq_some_iff.1 h2
        obtain ⟨_, h4⟩ := bif_some h3
        obtain ⟨xs, hxs, e⟩ := Option.map_eq_some_iff.1 h4
        injection e with e _
        exact ⟨A, hA, by rw [hxs, ← e]; rfl⟩
      | «from» _ => cases h
      | sub _ _ => cases h
    | _ => cases h

theorem packA_box {st : St} {k : Nat} {qs : List OP} {t : RT} {V : V} {y : denR t} {x : denR (opsRT qs t)} {u : List Lb} {r : List (Nat × Nat)} (h : packA st k (.box true qs) t V y = some (x, u, r)) : V = .one (.ptr k 1 0) ∧ ∃ cs, box? st k 1 = some cs := by
  cases V with
  | agg _ => cases h
  | tup _ => cases h
  | one cx => cases cx with
    | ptr b g off =>
      have h : (bif Nat.beq off 0 && (!true || (Nat.beq b k && Nat.beq g 1)) then ((box? st b g).bind fun cs => (packL st qs t cs y).map fun q => (q.1, Lb.box b :: somes q.2.1, q.2.2)) else none) = some (x, u, r) := h
      obtain ⟨h1, h2⟩ := bif_some h
      simp only [Bool.not_true, Bool.false_or] at h1
      rw [Bool.and_eq_true, Bool.and_eq_true] at h1
      have e1 := Nat.eq_of_beq_eq_true h1.1
      have e2 := Nat.eq_of_beq_eq_true h1.2.1
      have e3 := Nat.eq_of_beq_eq_true h1.2.2
      subst e1 e2 e3
      obtain ⟨cs, hcs, _⟩ := Option.bind_eq_some_iff.1 h2
      exact ⟨rfl, cs, hcs⟩
    | _ => cases h

/-- What a packed slot tells of the state that it came from. -/
theorem packHead_at {w0 : World} {mu : Mu} {c : Cz} {st : St} {a : Act} {w : World} (h : Rel w0 mu c st a w) : (l : List (Option AP)) → (k : Nat) → {x : denR (headRT l)} → {u : List Lb} → {r : List (Nat × Nat)} → packHead st k l = some (x, u, r) → ∀ (i : Nat),
    (∀ rr, l[i]? = some (some (.io rr)) → ∃ B A : Arr, (heads l x)[i]? = some (some (.io B)) ∧ arr? st (k + i) 0 1 = some A ∧ B.r.width = A.r.width ∧ B.xs.length = A.xs.length) ∧
    (∀ qs, l[i]? = some (some (.box true qs)) → (∃ cs, box? st (k + i) 1 = some cs) ∧ getV st (k + i) = .one (.ptr (k + i) 1 0)) ∧
    (l[i]? = some none → (heads l x)[i]? = some none) ∧ (∀ ag b, l[i]? = some (some (.val ag b)) → ∃ os, (heads l x)[i]? = some (some (.val ag os)))
  | [], k, x, u, r, he => by intro i; simp
  | none :: l, k, x, u, r, he => by
    intro i
    cases i with
    | zero => exact ⟨fun _ h => by simp at h, fun _ h => by simp at h, fun _ => rfl, fun _ _ h => by simp at h⟩
    | succ i =>
      have := packHead_at h l (k + 1) he i
      rw [show k + 1 + i = k + (i + 1) by omega] at this
      exact this
  | some p :: l, k, x, u, r, he => by
    intro i
    unfold packHead at he
    cases h1 : packHead st (k + 1) l with
    | none => simp [h1] at he
    | some q1 =>
      obtain ⟨y, us, rs⟩ := q1
      simp only [h1] at he
      cases h2 : packA st k p (headRT l) (getV st k) y with
      | none => simp [h2] at he
      | some q2 =>
        obtain ⟨x1, u1, r1⟩ := q2
        simp only [h2] at he
        injection he with he
        injection he with e1 e2
        subst e1
        cases i with
        | succ i =>
          have hh := packHead_at h l (k + 1) h1 i
          rw [show k + 1 + i = k + (i + 1) by omega] at hh
          have e : (p.av (headRT l) x1).2 = y := (packA_ok h k (h.regs k) h2).1
          have e2 : (heads (some p :: l) x1)[i + 1]? = (heads l y)[i]? := by
            show (heads l (p.av (headRT l) x1).2)[i]? = _
            rw [e]
          rw [e2]
          exact hh
        | zero =>
          have e2 : (heads (some p :: l) x1)[0]? = some (some (p.av (headRT l) x1).1) := rfl
          rw [e2]
          simp only [List.getElem?_cons_zero, Option.some.injEq, Nat.add_zero]
          refine ⟨fun rr e => ?_, fun qs e => ?_, (fun e => by cases e), fun ag b e => ?_⟩
          · subst e
            obtain ⟨A, hA, hc⟩ := packA_io h2
            obtain ⟨er, exs⟩ := castL_some hc
            refine ⟨_, A, rfl, hA, by show rr.width = _; rw [← er], ?_⟩
            show List.length (x1.1 : List (denR rr)) = _
            rw [exs]
            cases er
            rfl
          · subst e
            obtain ⟨q1, q2⟩ := packA_box h2
            exact ⟨q2, q1⟩
          · subst e
            exact ⟨_, rfl⟩

end Go.TM

/- The tree machine, part 37: loops (III). -/
namespace Go.TM
open Go Go.RowKit

/-- A state, told by its pattern alone. -/
theorem rehead {w0 : World} {mu : Mu} {c : Cz} {st : St} {a : Act} {w : World} (h : Rel w0 mu c st a w) {ps : List AP} (hs : AnShape ps mu) {hp : List (Option AP)} (hfit : headFit ps hp = true) {x : denR (headRT hp)} (hx : packH st hp = some x) : ∃ c', Rel w0 mu c' (headSt hp x) a w := by
  obtain ⟨q, hq, hx1⟩ := Option.bind_eq_some_iff.1 hx
  obtain ⟨hchk, hx2⟩ := bif_some hx1
  injection hx2 with hx2
  obtain ⟨x0, u, r⟩ := q
  subst hx2
  rw [Bool.and_eq_true] at hchk
  obtain ⟨hreal, tb, htb1, htb2, hold⟩ := packHead_ok h hp 0 hq
  have hat := packHead_at h hp 0 hq
  have hnd := noTwice_nodup _ hreal hchk.1
  have hap : ∀ p ∈ r, Lb.sp p.1 p.2 ∉ u := by
    intro p hp hm
    have h1 := List.all_eq_true.1 hchk.2 p hp
    have h2 := List.all_eq_true.1 h1 _ hm
    rw [(Lb.same_iff rfl).2 rfl] at h2
    cases h2
  have hcl := Classical.propDecidable
  let ρ : Lb → Option Lb := fun l => match look tb l with | some y => some y | none => if l = .out then some .out else none
  have hρt : ∀ p ∈ tb, ρ p.1 = some p.2 := by
    intro p hp
    have := look_mem tb (by rw [htb1]; exact hnd) hp
    show (match look tb p.1 with | some y => some y | none => _) = _
    rw [this]
  have hlook : ∀ {l y}, look tb l = some y → l ∈ u := by
    intro l y hl
    have := look_some tb hl
    rw [← htb1]
    exact List.mem_map.2 ⟨_, this, rfl⟩
  have hρr : ∀ p ∈ r, ρ (.sp p.1 p.2) = none := by
    intro p hp
    show (match look tb (.sp p.1 p.2) with | some y => some y | none => if Lb.sp p.1 p.2 = .out then some Lb.out else none) = none
    cases hl : look tb (.sp p.1 p.2) with
    | some y => exact absurd (hlook hl) (hap p hp)
    | none => simp
  have hρo : ρ .out = some .out := by
    show (match look tb Lb.out with | some y => some y | none => if Lb.out = Lb.out then some Lb.out else none) = _
    cases hl : look tb Lb.out with
    | some y => have := hreal _ (hlook hl); cases this
    | none => simp
  have hbas : Bas w0 mu (c.map ρ) w := by
    refine ⟨fun b l hb => ?_, fun b hb hn => ?_, h.kept, h.old⟩
    · obtain ⟨k, hk, e⟩ := Cz.map_some hb
      obtain ⟨g1, g2⟩ := h.owned b k hk
      refine ⟨g1, g2.imp (fun e2 => ?_) id⟩
      subst e2
      rw [hρo] at e
      cases e; rfl
    · cases hk : c.own b with
      | none => exact h.free b hb hk
      | some k =>
        have e : ρ k = none := (Cz.map_own (ρ := ρ) hk).symm.trans hn
        rcases (h.owned b k hk).2 with g | g | g
        · subst g; rw [hρo] at e; cases e
        · exact absurd g (Nat.not_le_of_lt hb)
        · exact .inl g
  refine Rel.scratch hbas h.plain (hold ρ hρt hρr) (fun p hpm => ?_)
  have han := h.anch p hpm
  have hlen : ∀ (i : Nat) (o : Option AP), hp[i]? = some o → i < (heads hp x0).length := fun i o ho => by rw [heads_length]; exact (List.getElem?_eq_some_iff.1 ho).1
  rcases hs p hpm with ⟨i, rr, W, n, l, rfl, hpi⟩ | ⟨i, blk, b, qs, rfl, hpi⟩ | ⟨i, j, W, n, l, qs, rfl, hpi⟩
  · obtain ⟨o, ho, ho2⟩ := headFit_at ps hp hfit i _ hpi
    refine ⟨rfl, hlen i o ho, fun av hav => .inl ?_⟩
    rcases ho2 with rfl | ⟨r2, rfl⟩
    · rw [(hat i).2.2.1 ho] at hav; cases hav
    · obtain ⟨B, A, e1, e2, e3, e4⟩ := (hat i).1 r2 ho
      rw [e1] at hav
      simp only [Option.some.injEq] at hav
      rw [Nat.zero_add] at e2
      obtain ⟨f1, f2, f3⟩ := han.2 A e2
      exact ⟨B, hav.symm, fun _ => ⟨e3.trans f1, e4.trans f2, f3⟩⟩
  · obtain ⟨o, ho, ho2⟩ := headFit_at ps hp hfit i _ hpi
    refine ⟨rfl, hlen i o ho, fun os hos => ?_⟩
    rcases ho2 with rfl | ⟨a1, b1, rfl⟩ | ⟨b1, rfl⟩
    · rw [(hat i).2.2.1 ho] at hos; cases hos
    · obtain ⟨os', e⟩ := (hat i).2.2.2 a1 b1 ho
      rw [e] at hos; cases hos
    · obtain ⟨⟨cs, hcs⟩, hv⟩ := (hat i).2.1 b1 ho
      rw [Nat.zero_add] at hcs hv
      have hreg := h.regs i
      rw [hv] at hreg
      rw [hreg.2.2 cs hcs, han.2 cs hcs]
  · obtain ⟨o, ho, ho2⟩ := headFit_at ps hp hfit i _ hpi
    exact ho2.elim

/-- A loop's rounds: what a round hands on. -/
def roundK (id : Nat) (hp e0 e1 : List (Option AP)) : Ex → St → Option (Sum (denR (headRT hp)) (Sum (denR (headRT e0)) (denR (headRT e1))))
  | .normal, st => (packH st hp).map .inl
  | .exit m, st => bif Nat.beq m id then (packH st e0).map fun y => .inr (.inl y) else none
  | .ret, st => (packH st e1).map fun y => .inr (.inr y)

/-- A loop, by its rounds. -/
noncomputable def loopAt {R : Type} (hp e0 e1 : List (Option AP)) (round : denR (headRT hp) → Option (Sum (denR (headRT hp)) (Sum (denR (headRT e0)) (denR (headRT e1))))) (st : St) (k : Ex → St → Option R) : Option R :=
  (packH st hp).bind fun x => (loopV round x).bind fun z => match z with
    | .inl y => k .normal (headSt e0 y)
    | .inr y => k .ret (headSt e1 y)

theorem loop_ok {R : Type} {P : Program} {T : Tab} {S : Sems} {D : Draws} {n id : Nat} {w0 : World} {mu : Mu} {ps : List AP} {hp e0 e1 : List (Option AP)} {b : Code} {r : R} {L : Loops R} {okD : Nat → Array Oper → Prop}
    {L' : Loops (Sum (denR (headRT hp)) (Sum (denR (headRT e0)) (denR (headRT e1))))} {round : denR (headRT hp) → Option (Sum (denR (headRT hp)) (Sum (denR (headRT e0)) (denR (headRT e1))))}
    (hop : OpSound P T S w0 mu n) (hD : DrawSound (Sum (denR (headRT hp)) (Sum (denR (headRT e0)) (denR (headRT e1)))) P T S D w0 mu n okD) (hs : AnShape ps mu) (hf : (headFit ps hp && (headFit ps e0 && headFit ps e1)) = true) (hdst : codeDst n b = true) (hD2 : codeDraw okD b)
    (hin : ∀ z, codeLoops (LoopAt P w0 mu n L' z) b) (hround : ∀ x, codeK T S D L' b (headSt hp x) (roundK id hp e0 e1) = round x) (hL : ∀ st k, L id b st k = loopAt hp e0 e1 round st k) : LoopAt P w0 mu n L r id b := by
  intro k Q hk c st a w h hn hv
  rw [Bool.and_eq_true, Bool.and_eq_true] at hf
  rw [hL] at hv
  unfold loopAt at hv
  obtain ⟨x, hx, hv⟩ := Option.bind_eq_some_iff.1 hv
  obtain ⟨z, hz, hv⟩ := Option.bind_eq_some_iff.1 hv
  obtain ⟨c1, h1⟩ := rehead h hs hf.1 hx
  obtain ⟨m, hm⟩ := loopV_some hz
  refine wp_block ?_
  refine wp_loop_ghost (fun m a w => ∃ x c, Rel w0 mu c (headSt hp x) a w ∧ a.tmps.size = n ∧ iter round m x = some z) m ⟨x, c1, h1, hn, hm⟩ ?_
  rintro m a w ⟨x, c, hR, hn, hi⟩
  cases m with
  | zero => cases hi
  | succ m =>
    unfold iter at hi
    cases hr : round x with
    | none => rw [hr] at hi; cases hi
    | some y =>
      rw [hr] at hi
      refine codeK_ok hop hD b hdst (hin y) hD2 (fun {e} {c2} {st2} {a2} {w2} g1 g2 g3 => ?_) hR hn ((hround x).trans hr)
      cases e with
      | normal =>
        obtain ⟨x2, q1, rfl⟩ := Option.map_eq_some_iff.1 g3
        obtain ⟨c3, g4⟩ := rehead g1 hs hf.1 q1
        exact ⟨m, Nat.lt_succ_self m, x2, c3, g4, g2, hi⟩
      | exit m' =>
        obtain ⟨hid, g5⟩ := bif_some g3
        have hid := Nat.eq_of_beq_eq_true hid
        subst hid
        obtain ⟨x2, q1, rfl⟩ := Option.map_eq_some_iff.1 g5
        injection hi with hi
        subst hi
        obtain ⟨c3, g4⟩ := rehead g1 hs hf.2.1 q1
        show (if m' = m' then Q .normal a2 w2 else Q (.exit m') a2 w2)
        rw [if_pos rfl]
        exact hk g4 g2 hv
      | ret =>
        obtain ⟨x2, q1, rfl⟩ := Option.map_eq_some_iff.1 g3
        injection hi with hi
        subst hi
        obtain ⟨c3, g4⟩ := rehead g1 hs hf.2.2 q1
        exact hk g4 g2 hv

end Go.TM

/- The tree machine, part 38: regions of open order (I): what may be taken first. -/
namespace Go.TM
open Go Go.RowKit

section
variable {P : Program} {ops : Array Oper} {Q : Exit → Act → World → Prop} {md : Region.Mode} {ds : List Nat}

/-- Operation d waits for operation i, by a chain of at most 'fuel' edges. -/
def reachB (md : Region.Mode) (ops : Array Oper) (i : Nat) : Nat → Nat → Bool
  | 0, _ => false
  | fuel + 1, d => match ops[d]? with
    | some o => o.after.any fun e => Region.binds md e && (e.on == i || reachB md ops i fuel e.on)
    | none => false

/-- What is listed is closed under the edges. -/
def ShutUp (md : Region.Mode) (ops : Array Oper) (listed : Array Bool) : Prop :=
  ∀ j oj, ops[j]? = some oj → listed.getD j false = true → ∀ e ∈ oj.after, Region.binds md e = true → listed.getD e.on false = true

theorem ShutUp.set {listed : Array Bool} {i : Nat} (h : ShutUp md ops listed) (hi : i ∈ Region.ready md ops listed) : ShutUp md ops (listed.setIfInBounds i true) := by
  obtain ⟨_, oi, hoi, hall⟩ := mem_ready.1 hi
  intro j oj hj hl e he hb
  by_cases hij : i = j
  · subst hij
    have : oj = oi := Option.some.inj (hj.symm.trans hoi)
    subst this
    exact getD_set_true (hall e he hb)
  · rw [getD_set_ne false hij] at hl
    exact getD_set_true (h j oj hj hl e he hb)

theorem ShutUp.none (md : Region.Mode) (ops : Array Oper) (n : Nat) : ShutUp md ops (Array.replicate n false) := by
  intro j oj _ hl
  simp [Array.getD_eq_getD_getElem?, Array.getElem?_replicate] at hl
  split at hl <;> simp at hl

theorem reach_listed {listed : Array Bool} {i : Nat} (hc : ShutUp md ops listed) : ∀ (fuel d : Nat), reachB md ops i fuel d = true → listed.getD d false = true → listed.getD i false = true
  | 0, _, h, _ => by simp [reachB] at h
  | fuel + 1, d, h, hl => by
    unfold reachB at h
    cases ho : ops[d]? with
    | none => rw [ho] at h; simp at h
    | some o =>
      rw [ho] at h
      obtain ⟨e, he, h1⟩ := Array.any_eq_true'.1 h
      simp only [Bool.and_eq_true, Bool.or_eq_true, beq_iff_eq] at h1
      have hle := hc d o ho hl e he h1.1
      rcases h1.2 with h2 | h2
      · rw [← h2]; exact hle
      · exact reach_listed hc fuel e.on h2 hle

/-- What waits for i cannot come up before i is listed. -/
theorem reach_not_ready {listed : Array Bool} {i d fuel : Nat} (hc : ShutUp md ops listed) (hr : reachB md ops i fuel d = true) (hun : listed.getD i true = false) : d ∉ Region.ready md ops listed := by
  intro hd
  obtain ⟨_, o, ho, hall⟩ := mem_ready.1 hd
  have hi : listed.getD i false = true := by
    cases fuel with
    | zero => simp [reachB] at hr
    | succ n =>
      unfold reachB at hr
      rw [ho] at hr
      obtain ⟨e, he, h1⟩ := Array.any_eq_true'.1 hr
      simp only [Bool.and_eq_true, Bool.or_eq_true, beq_iff_eq] at h1
      have hle := hall e he h1.1
      rcases h1.2 with h2 | h2
      · rw [← h2]; exact hle
      · exact reach_listed hc n e.on h2 hle
  rcases Nat.lt_or_ge i listed.size with h' | h'
  · simp [h'] at hun hi
    rw [hun] at hi
    cases hi
  · simp [Array.getElem?_eq_none h'] at hun

/-- Whatever order is picked from here on; behind each operation, those of ds apart, all that stood stands as it was. -/
def wpAnyK (P : Program) (md : Region.Mode) (ops : Array Oper) (Q : Exit → Act → World → Prop) (ds : List Nat) : Nat → Array Bool → Act → World → Prop
  | 0, listed, a, w => Region.ready md ops listed = [] ∧ Q .normal a w
  | fuel + 1, listed, a, w =>
    (Region.ready md ops listed = [] → Q .normal a w) ∧
    ∀ i ∈ Region.ready md ops listed, wpOp P ops Q i (fun a' w' => (i ∉ ds → Keep w w') ∧ wpAnyK P md ops Q ds fuel (listed.setIfInBounds i true) a' w') a w

theorem wpAny_of_keep : ∀ (fuel : Nat) (listed : Array Bool) (a : Act) (w : World), wpAnyK P md ops Q ds fuel listed a w → wpAny P md ops Q fuel listed a w
  | 0, _, _, _, h => h
  | fuel + 1, _, _, _, h => ⟨h.1, fun i hi => wpOp_mono (fun a' w' h' => wpAny_of_keep fuel _ a' w' h'.2) (h.2 i hi)⟩

/-- An operation that yields in every world that keeps what stands now is taken first: those of ds wait for it. -/
theorem wpAnyK_first {i : Nat} {oi : Oper} {v : Value} {w0 : World} (hi : ops[i]? = some oi) (hsel : ∀ (j : Nat) (o : Oper) cs b, ops[j]? = some o → o.op ≠ .select cs b)
    (hQ : ∀ c a w, Q (.panic c) (a.put oi.dst v) w → Q (.panic c) a w) (n : Nat) :
    ∀ (fuel : Nat) (listed : Array Bool) (a : Act) (w : World),
      (∀ j oj, ops[j]? = some oj → j ≠ i → listed.getD j true = false → (∀ e ∈ oj.after, Region.binds md e = true → e.on ≠ i) → oi.apart ops oj = true) →
      ShutUp md ops listed → (∀ d ∈ ds, listed.getD d true = false → reachB md ops i n d = true) →
      i ∈ Region.ready md ops listed → YieldsIf P ops (Keep w0) oi v a → Keep w0 w →
      wpAnyK P md ops Q ds fuel (listed.setIfInBounds i true) (a.put oi.dst v) w → wpAnyK P md ops Q ds (fuel + 1) listed a w := by
  intro fuel
  induction fuel with
  | zero =>
    intro listed a w _ _ _ hr hy hS H
    refine ⟨fun h => (by rw [h] at hr; cases hr), fun j hj => ?_⟩
    by_cases hji : j = i
    · subst hji; exact hy.wpOp hi hS ⟨fun _ => Keep.refl w, H⟩
    · have := ready_mono hj hji
      rw [H.1] at this
      cases this
  | succ fuel ih =>
    intro listed a w hfree hc hd hr hy hS H
    refine ⟨fun h => (by rw [h] at hr; cases hr), fun j hj => ?_⟩
    by_cases hji : j = i
    · subst hji; exact hy.wpOp hi hS ⟨fun _ => Keep.refl w, H⟩
    · have h1 := H.2 j (ready_mono hj hji)
      obtain ⟨hjun, oj, hoj, hall⟩ := mem_ready.1 hj
      have hiun := (mem_ready.1 hr).1
      have hnot : ∀ e ∈ oj.after, Region.binds md e = true → e.on ≠ i := fun e he hb heq => by
        have h1 := hall e he hb
        rw [heq] at h1
        rcases Nat.lt_or_ge i listed.size with h' | h'
        · simp [h'] at hiun h1; rw [hiun] at h1; cases h1
        · simp [Array.getElem?_eq_none h'] at h1
      have hjd : j ∉ ds := fun hm => reach_not_ready hc (hd j hm hjun) hiun hj
      have h2 := wpOp_putIf hoj (hfree j oj hoj hji hjun hnot) (fun cs b => hsel i oi cs b hi) (fun cs b => hsel j oj cs b hoj) hQ hy h1
      have hfree' : ∀ k ok, ops[k]? = some ok → k ≠ i → (listed.setIfInBounds j true).getD k true = false →
          (∀ e ∈ ok.after, Region.binds md e = true → e.on ≠ i) → oi.apart ops ok = true := fun k ok hk hki hun hno => by
        refine hfree k ok hk hki ?_ hno
        by_cases hjk : j = k
        · subst hjk; exact hjun
        · rw [getD_set_ne true hjk] at hun; exact hun
      have hd' : ∀ d ∈ ds, (listed.setIfInBounds j true).getD d true = false → reachB md ops i n d = true := fun d hm hun => by
        refine hd d hm ?_
        by_cases hjk : j = d
        · subst hjk; exact hjun
        · rw [getD_set_ne true hjk] at hun; exact hun
      refine wpOp_mono (fun a' w' h3 => ⟨h3.2.1, ih (listed.setIfInBounds j true) a' w' hfree' (hc.set hj) hd' (ready_mono hr (Ne.symm hji)) h3.1 (hS.trans (h3.2.1 hjd)) ?_⟩) h2
      rw [Array.setIfInBounds_comm _ _ hji]
      exact h3.2.2

/-- An operation that yields whatever the world is taken first. -/
theorem wpAnyK_any {i : Nat} {oi : Oper} {v : Value} (hi : ops[i]? = some oi) (hsel : ∀ (j : Nat) (o : Oper) cs b, ops[j]? = some o → o.op ≠ .select cs b)
    (hQ : ∀ c a w, Q (.panic c) (a.put oi.dst v) w → Q (.panic c) a w) :
    ∀ (fuel : Nat) (listed : Array Bool) (a : Act) (w : World),
      (∀ j oj, ops[j]? = some oj → j ≠ i → listed.getD j true = false → (∀ e ∈ oj.after, Region.binds md e = true → e.on ≠ i) → oi.apart ops oj = true) →
      i ∈ Region.ready md ops listed → Yields P ops oi v a →
      wpAnyK P md ops Q ds fuel (listed.setIfInBounds i true) (a.put oi.dst v) w → wpAnyK P md ops Q ds (fuel + 1) listed a w := by
  intro fuel
  induction fuel with
  | zero =>
    intro listed a w _ hr hy H
    refine ⟨fun h => (by rw [h] at hr; cases hr), fun j hj => ?_⟩
    by_cases hji : j = i
    · subst hji; exact (hy.yieldsIf (S := fun _ => True)).wpOp hi trivial ⟨fun _ => Keep.refl w, H⟩
    · have := ready_mono hj hji
      rw [H.1] at this
      cases this
  | succ fuel ih =>
    intro listed a w hfree hr hy H
    refine ⟨fun h => (by rw [h] at hr; cases hr), fun j hj => ?_⟩
    by_cases hji : j = i
    · subst hji; exact (hy.yieldsIf (S := fun _ => True)).wpOp hi trivial ⟨fun _ => Keep.refl w, H⟩
    · have h1 := H.2 j (ready_mono hj hji)
      obtain ⟨hjun, oj, hoj, hall⟩ := mem_ready.1 hj
      have hiun := (mem_ready.1 hr).1
      have hnot : ∀ e ∈ oj.after, Region.binds md e = true → e.on ≠ i := fun e he hb heq => by
        have h1 := hall e he hb
        rw [heq] at h1
        rcases Nat.lt_or_ge i listed.size with h' | h'
        · simp [h'] at hiun h1; rw [hiun] at h1; cases h1
        · simp [Array.getElem?_eq_none h'] at h1
      have h2 := wpOp_put hoj (hfree j oj hoj hji hjun hnot) (fun cs b => hsel i oi cs b hi) (fun cs b => hsel j oj cs b hoj) hQ hy h1
      have hfree' : ∀ k ok, ops[k]? = some ok → k ≠ i → (listed.setIfInBounds j true).getD k true = false →
          (∀ e ∈ ok.after, Region.binds md e = true → e.on ≠ i) → oi.apart ops ok = true := fun k ok hk hki hun hno => by
        refine hfree k ok hk hki ?_ hno
        by_cases hjk : j = k
        · subst hjk; exact hjun
        · rw [getD_set_ne true hjk] at hun; exact hun
      refine wpOp_mono (fun a' w' h3 => ⟨h3.2.1, ih (listed.setIfInBounds j true) a' w' hfree' (ready_mono hr (Ne.symm hji)) h3.1 ?_⟩) h2
      rw [Array.setIfInBounds_comm _ _ hji]
      exact h3.2.2
end

end Go.TM
