/- A machine over trees: an evaluator of the code, and that what it finds is so; part 4. -/
import Derived.Test.YtlgnmloddedbaaaGreatTm3
import Derived.Carry
import Derived.ChangeArms
import Derived.ChangeOld
import Derived.OpenShut
import Derived.Laws.StructEq
import Derived.ChangeKeysEq
namespace Go.TM
open Go Go.RowKit
def cY : Code → List (Nat × Code)
 | .seq a b => cY a ++ cY b
 | .cond _ a b => cY a ++ cY b
 | .block id (.loop b) => [(id, b)]
 | .block _ a => cY a
 | _ => []
theorem pV {ok : Nat → Code → Prop} : (c : Code) → (∀ p ∈ cY c, ok p.1 p.2) → dw ok c := by
 intro c
 induction c with
 | seq a b UZ U0 =>
   intro h; unfold cY at h; exact ⟨UZ fun p hp => h p (List.mem_append_left _ hp), U0 fun p hp => h p (List.mem_append_right _ hp)⟩
 | cond x a b UZ U0 =>
   intro h; unfold cY at h; exact ⟨UZ fun p hp => h p (List.mem_append_left _ hp), U0 fun p hp => h p (List.mem_append_right _ hp)⟩
 | block id a ih =>
   intro h
   by_cases hb : ∃ b', a = .loop b'
   · obtain ⟨b', rfl⟩ := hb; exact h (id, b') (by unfold cY; exact List.mem_cons_self)
   · cases a with
     | loop b' => exact absurd ⟨b', rfl⟩ hb
     | _ => unfold cY at h; unfold dw; exact ih h
 | _ => intro _; unfold dw; trivial
def mJ (c : Code) (i : Nat) : Code := match nth (cY c) i with | some p => p.2 | none => .skip
def jg (D : kn) : Code → Bool
 | .region id ops true => Dm ops (D id)
 | .seq a b => jg D a && jg D b
 | .cond _ a b => jg D a && jg D b
 | .block _ (.loop _) => true
 | .block _ a => jg D a
 | _ => true
theorem rV {D : kn} : (c : Code) → jg D c = true → dK (fun id ops => Dm ops (D id) = true) c := by
 intro c
 induction c with
 | region id ops dr =>
   intro h
   cases dr with
   | true => exact h
   | false => unfold dK; trivial
 | seq a b UZ U0 =>
   intro h; unfold jg at h; rw [Bool.and_eq_true] at h; exact ⟨UZ h.1, U0 h.2⟩
 | cond x a b UZ U0 =>
   intro h; unfold jg at h; rw [Bool.and_eq_true] at h; exact ⟨UZ h.1, U0 h.2⟩
 | block id a ih =>
   intro h
   by_cases hb : ∃ b', a = .loop b'
   · obtain ⟨b', rfl⟩ := hb; unfold dK; trivial
   · cases a with
     | loop b' => exact absurd ⟨b', rfl⟩ hb
     | _ => unfold jg at h; unfold dK; exact ih h
 | _ => intro _; unfold dK; trivial
def Src.same : Src → Src → Bool
 | .tmp a, .tmp b => Nat.beq a b
 | .cell a, .cell b => Nat.beq a b
 | .ptr a, .ptr b => Nat.beq a b
 | _, _ => false
theorem Src.zG : {a b : Src} → a.same b = true → a = b
 | .tmp _, .tmp _, h => congrArg Src.tmp (Nat.eq_of_beq_eq_true h)
 | .cell _, .cell _, h => congrArg Src.cell (Nat.eq_of_beq_eq_true h)
 | .ptr _, .ptr _, h => congrArg Src.ptr (Nat.eq_of_beq_eq_true h)
 | .tmp _, .cell _, h => by cases h
 | .tmp _, .ptr _, h => by cases h
 | .cell _, .tmp _, h => by cases h
 | .cell _, .ptr _, h => by cases h
 | .ptr _, .tmp _, h => by cases h
 | .ptr _, .cell _, h => by cases h
def Iq (T : ki) : List ResultVar → List RP → Bool
 | [], [] => true
 | .tmp t :: vs, r :: rs => (r.src.same (.tmp t) || r.src.same (.ptr t)) && Iq T vs rs
 | .cell t ty :: vs, r :: rs => r.src.same (.cell t) && ((match T.cells ty with | some n => Nat.beq n r.ps.length | none => false) && ((T.agg ty == r.agg) && Iq T vs rs))
 | _, _ => false
theorem wT {T : ki} (tm : Array Value) : (vs : List ResultVar) → (rs : List RP) → Iq T vs rs = true → xM T tm vs rs
 | [], [], _ => trivial
 | [], _ :: _, h => by simp [Iq] at h
 | v :: _, [], h => by cases v <;> simp [Iq] at h
 | .tmp t :: vs, r :: rs, h => by
   unfold Iq at h; rw [Bool.and_eq_true, Bool.or_eq_true] at h; exact ⟨h.1.imp Src.zG Src.zG, wT tm vs rs h.2⟩
 | .cell t ty :: vs, r :: rs, h => by
   unfold Iq at h; rw [Bool.and_eq_true, Bool.and_eq_true, Bool.and_eq_true] at h; obtain ⟨h1, h2, h3, h4⟩ := h; refine ⟨⟨Src.zG h1, ?_, by simpa using h3⟩, wT tm vs rs h4⟩
   cases hc : T.cells ty with
   | none => rw [hc] at h2; cases h2
   | some n => rw [hc] at h2; rw [Nat.eq_of_beq_eq_true h2]
abbrev U6 := List (Nat × (Pm × Pm × Pm × u6))
def xP : U6 → ju
 | [], _ => none
 | (g, s) :: l, f => bif Nat.beq f g then some s else xP l f
structure nD (P : Program) (f : FuncId) (Bk : u6) : Prop where
 ok : FnOk P f Bk
 fn : ∃ fn, P.funcs[f]? = some fn ∧ (fn.name == "runtime.NumGoroutine") = false ∧ fn.body.isNone = false
theorem Px {P : Program} : l5 P (xP []) := fun f a b c Bk h => by cases h
theorem MN {P : Program} {g : Nat} {a b c : Pm} {Bk : u6} {l : U6} (hk : nD P g Bk) (hl : l5 P (xP l)) : l5 P (xP ((g, (a, b, c, Bk)) :: l)) := by
 intro f a' b' c' ae9 h; unfold xP at h
 cases hb : Nat.beq f g with
 | true =>
   rw [hb] at h; injection h with h; injection h with _ h; injection h with _ h; injection h with _ h; subst h; rw [Nat.eq_of_beq_eq_true hb]; exact ⟨hk.ok, hk.fn⟩
 | false => rw [hb] at h; exact hl f a' b' c' ae9 h
def Tt (T : ki) (D : kn) (fn : Func) (code : Code) (n : Nat) (ps : List AP) (rs : List RP) : Bool :=
 Nat.beq fn.ntmps n && (Nat.ble ps.length n && (eR n code && (Iq T fn.results.toList rs && jg D code)))
theorem RU {P : Program} {tr : Tr} (hT : tr.all (uX P) = true) (hE : u9 P (j5 tr)) (hm : P.follows .mixedOrders = true) {S : ju} (hS : l5 P S) {D : kn} {f : FuncId} {fn : Func} {code : Code} {n : Nat} {ps : List AP} {rs : List RP}
   {L : mE (ar (ca rs (bk ps)))} {t : ar (aE (ps.map some)) → Option (ar (ca rs (bk ps)))}
   (hf : P.funcs[f]? = some fn) (hb : fn.body = some code) (oY : Tt (j5 tr) D fn code n ps rs = true) (Ir : (fn.name == "runtime.NumGoroutine") = false)
   (hL : ∀ (w0 : World) (mu : Mu) (y : ar (ca rs (bk ps))), lJ ps mu → ∀ p ∈ cY code, lW P w0 mu n L y p.1 p.2)
   (JZ : ∀ x, dI (j5 tr) S D L code (start n ps x) (zA rs ps) = t x) : nD P f (kz ps rs t) := by
 unfold Tt at oY; rw [Bool.and_eq_true, Bool.and_eq_true, Bool.and_eq_true, Bool.and_eq_true] at oY; obtain ⟨h1, h2, h3, h4, h5⟩ := oY; refine ⟨Z8 (jW hT) hE hS hf hb (Nat.eq_of_beq_eq_true h1) (Nat.le_of_ble_eq_true h2) h3 (fun tm => wT tm _ _ h4) (fun w0 mu y hs => pV code (hL w0 mu y hs))
   (fun w0 mu => sS (jW hT) hE hm (pT (jW hT) hE hS w0 mu n)) (rV code h5) JZ, fn, hf, Ir, by rw [hb]; rfl⟩
def FB (D : kn) (ps : List AP) (hp e0 e1 : List (Option AP)) (n : Nat) (b : Code) : Bool :=
 (fO ps hp && (fO ps e0 && fO ps e1)) && (eR n b && jg D b)
theorem MO {R : Type} {P : Program} {tr : Tr} (hT : tr.all (uX P) = true) (hE : u9 P (j5 tr)) (hm : P.follows .mixedOrders = true) {S : ju} (hS : l5 P S) {D : kn} {n id : Nat} {w0 : World} {mu : Mu} {ps : List AP} {hp e0 e1 : List (Option AP)} {b : Code} {r : R} {L : mE R}
   {L' : mE (Sum (ar (aE hp)) (Sum (ar (aE e0)) (ar (aE e1))))} {round : ar (aE hp) → Option (Sum (ar (aE hp)) (Sum (ar (aE e0)) (ar (aE e1))))}
   (hs : lJ ps mu) (oY : FB D ps hp e0 e1 n b = true)
   (Cd : ∀ z, ∀ p ∈ cY b, lW P w0 mu n L' z p.1 p.2) (J0 : ∀ x, dI (j5 tr) S D L' b (nM hp x) (AD id hp e0 e1) = round x) (hL : ∀ st k, L id b st k = AE hp e0 e1 round st k) : lW P w0 mu n L r id b := by
 unfold FB at oY; rw [Bool.and_eq_true, Bool.and_eq_true (eR n b)] at oY; exact RO (pT (jW hT) hE hS w0 mu n) (sS (jW hT) hE hm (pT (jW hT) hE hS w0 mu n)) hs oY.1 oY.2.1 (rV b oY.2.2) (fun z => pV b (Cd z)) J0 hL
def bz {A B C : Type} (o : Option (Sum A B)) (f : A → Option C) (g : B → Option C) : Option C :=
 o.bind fun z => match z with
   | .inl y => f y
   | .inr y => g y
end Go.TM
namespace Go.TM
open Go Go.RowKit Go.ChangeShapes
def RT.app : RT → RT → RT
 | .nil, s => s
 | .cons t r, s => .cons t (r.app s)
def RW : (r s : RT) → ar r → ar s → ar (r.app s)
 | .nil, _, _, y => y
 | .cons _ r, s, x, y => (x.1, RW r s x.2 y)
mutual
def ED : (t : Ty) → den t → Prop
 | .int k, n => (Lit.int k n).wf = true
 | .bool, _ => True
 | .str, s => ByteArray.size s ≤ maxLen
 | .sl r, xs => (Le xs).length ≤ maxLen ∧ ∀ x ∈ Le xs, Dp r x
def Dp : (r : RT) → ar r → Prop
 | .nil, _ => True
 | .cons t r, x => ED t x.1 ∧ Dp r x.2
end
theorem Dq (x : ar .nil) : Dp .nil x := Dp.eq_1 x ▸ trivial
theorem nO {t : Ty} {r : RT} {x : ar (.cons t r)} : Dp (.cons t r) x ↔ ED t x.1 ∧ Dp r x.2 := Dp.eq_2 t r x ▸ Iff.rfl
theorem aae {k : IntKind} {n : Int} : ED (.int k) n ↔ (Lit.int k n).wf = true := ED.eq_1 k n ▸ Iff.rfl
theorem U7 {b : Bool} : ED .bool b := ED.eq_2 b ▸ trivial
theorem aaf {s : ByteArray} : ED .str s ↔ ByteArray.size s ≤ maxLen := ED.eq_3 s ▸ Iff.rfl
theorem aag {r : RT} {xs : List (ar r)} : ED (.sl r) xs ↔ (xs.length ≤ maxLen ∧ ∀ x ∈ xs, Dp r x) := ED.eq_4 r xs ▸ Iff.rfl
theorem RT.AF : (r s : RT) → (r.app s).width = r.width + s.width
 | .nil, s => by simp [RT.app, RT.width]
 | .cons t r, s => by simp [RT.app, RT.width, RT.AF r s]; omega
theorem cD.cat {w : World} {ok : Nat → Prop} : (r s : RT) → (l m : List Value) → (x : ar r) → (y : ar s) → cD w ok r l x → cD w ok s m y → cD w ok (r.app s) (l ++ m) (RW r s x y)
 | .nil, s, l, m, x, y, h, h' => by
   have : l = [] := h; subst this; exact h'
 | .cons t r, s, l, m, x, y, h, h' => by
   obtain ⟨v, l', rfl, h1, h2⟩ := h; exact ⟨v, l' ++ m, rfl, h1, cD.cat r s l' m x.2 y h2 h'⟩
theorem Dp.cat : (r s : RT) → (x : ar r) → (y : ar s) → Dp r x → Dp s y → Dp (r.app s) (RW r s x y)
 | .nil, _, _, _, _, h' => h'
 | .cons t r, s, x, y, h, h' => by
   exact nO.2 ⟨(nO.1 h).1, Dp.cat r s x.2 y (nO.1 h).2 h'⟩
def Ds (P : Program) (row : TypeId → Option RT) : Nat → List Field → Option RT
 | _, [] => some .nil
 | off, f :: fs => match row f.type with
   | some q => (match Ds P row (off + q.width) fs with
     | some r => bif Nat.beq f.offset off && Nat.beq (P.cellsOf f.type) q.width then some (q.app r) else none
     | none => none)
   | none => none
def Dt (P : Program) : Nat → TypeId → Option RT
 | 0, _ => none
 | n + 1, t => match P.underlying t with
   | some .bool => some (.cons .bool .nil)
   | some (.int k) => some (.cons (.int k) .nil)
   | some .string => some (.cons .str .nil)
   | some (.slice e) => (match Dt P n e with
     | some q => bif Nat.beq (P.cellsOf e) q.width && Nat.blt 0 q.width then some (.cons (.sl q) .nil) else none
     | none => none)
   | some (.struct fs) => (match Ds P (Dt P n) 0 fs.toList with
     | some r => bif Nat.beq (P.cellsOf t) r.width then some r else none
     | none => none)
   | _ => none
theorem LG {α : Type} {Pr : Nat → α → Prop} : (n : Nat) → (∀ i, i < n → ∃ x, Pr i x) → ∃ xs : List α, xs.length = n ∧ ∀ (i : Nat) x, xs[i]? = some x → Pr i x
 | 0, _ => ⟨[], rfl, fun i x h => by simp at h⟩
 | n + 1, h => by
   obtain ⟨xs, h1, h2⟩ := LG n (fun i hi => h i (by omega)); obtain ⟨x, hx⟩ := h n (by omega); refine ⟨xs ++ [x], by simp [h1], fun i y hy => ?_⟩
   by_cases hi : i < n
   · rw [List.getElem?_append_left (by omega)] at hy; exact h2 i y hy
   · rw [List.getElem?_append_right (by omega)] at hy; have Cd : i = n := by
       have := (List.getElem?_eq_some_iff.1 hy).1; simp at this; omega
     subst Cd; rw [h1, Nat.sub_self] at hy; simp at hy; rw [← hy]; exact hx
theorem FD {w : World} {a : Addr} {v : Value} (h : w.cell? a = some v) : a.spot = none := by
 unfold World.cell? at h
 split at h
 · split at h
   · cases h
   · rename_i hs; simpa using hs
 · cases h
theorem Is {α β : Type} {f : α → Option β} : (l : List α) → {m : List β} → l.mapM f = some m → m.length = l.length ∧ ∀ (i : Nat) a, l[i]? = some a → f a = m[i]?
 | [], m, h => by
   simp at h; subst h; exact ⟨rfl, fun i a ha => by simp at ha⟩
 | a :: l, m, h => by
   rw [List.mapM_cons] at h
   cases ha : f a with
   | none => simp [ha] at h
   | some b =>
     cases hl : l.mapM f with
     | none => simp [ha, hl] at h
     | some m' =>
       simp [ha, hl] at h; subst h; obtain ⟨h1, h2⟩ := Is l hl; refine ⟨by simp [h1], fun i x hx => ?_⟩
       cases i with
       | zero => simp at hx; subst hx; simpa using ha
       | succ i => simpa using h2 i x (by simpa using hx)
theorem BG {w : World} {base n : Nat} {a : Addr} {vs : List Value} (h : w.cells? base a n = some vs) : vs.length = n ∧ w.rangeAt a.block a.off vs ∧ (0 < n → a.spot = none) := by
 unfold World.cells? at h
 split at h
 · obtain ⟨h1, h2⟩ := Is _ h; simp at h1; have each : ∀ j v, vs[j]? = some v → w.cell? (a.add j) = some v := by
     intro j v hv; have hj : j < n := by
       have := (List.getElem?_eq_some_iff.1 hv).1; omega
     rw [h2 j j (by simp [hj]), hv]
   refine ⟨h1, fun j v hv => ?_, fun hn => ?_⟩
   · have := each j v hv; have hs := FD this; have e : a.add j = ⟨a.block, a.off + j, none⟩ := by
       unfold Addr.add at hs ⊢
       split
       · rename_i h0; subst h0; rw [if_pos rfl] at hs; obtain ⟨b, o, s⟩ := a; simp at hs; subst hs; rfl
       · rfl
     rw [← e]; exact this
   · have bN : 0 < vs.length := by omega
     have := each 0 vs[0] (by simp [bN]); have hs := FD this; simpa [Addr.add] using hs
 · cases h
theorem FE {P : Program} {w : World} {cs : List Value} {row : TypeId → Option RT} : (fs : List Field) → (off : Nat) → (r : RT) → Ds P row off fs = some r →
   (∀ f ∈ fs, ∀ q, row f.type = some q → ∃ x : ar q, cD w (fun _ => True) q ((cs.drop f.offset).take (P.cellsOf f.type)) x ∧ Dp q x) → off + r.width ≤ cs.length →
   ∃ x : ar r, cD w (fun _ => True) r ((cs.drop off).take r.width) x ∧ Dp r x
 | [], off, r, h, _, _ => by
   simp only [Ds, Option.some.injEq] at h; subst h; exact ⟨(), by simp [RT.width, cD], Dq _⟩
 | f :: fs, off, r, h, hf, hl => by
   unfold Ds at h
   cases hq : row f.type with
   | none => simp [hq] at h
   | some q =>
     simp only [hq] at h
     cases hr : Ds P row (off + q.width) fs with
     | none => simp [hr] at h
     | some r' =>
       simp only [hr] at h; obtain ⟨h1, h2⟩ := aH h; injection h2 with h2; subst h2; rw [Bool.and_eq_true] at h1; have ho := Nat.eq_of_beq_eq_true h1.1; have hc := Nat.eq_of_beq_eq_true h1.2; rw [RT.AF] at hl; obtain ⟨x, JH, Ez⟩ := hf f List.mem_cons_self q hq; obtain ⟨y, hy1, hy2⟩ := FE fs (off + q.width) r' hr (fun g hg => hf g (List.mem_cons_of_mem _ hg)) (by omega); refine ⟨RW q r' x y, ?_, Dp.cat q r' x y Ez hy2⟩; rw [RT.AF, List.take_add, List.drop_drop]; rw [ho, hc] at JH; exact cD.cat q r' _ _ x y JH hy1
theorem GL {H : Type} {enc : TypeId × Value → H} {P : Program} {w : World} {base : Nat} {spare : Nat → Bool} {held : Bool} : (n : Nat) → ∀ {t : TypeId} {r : RT} {fuel : Nat} {cs : List Value} {y : DataW H × List MemPlace}, Dt P n t = some r →
   DataW.trod enc P w base spare held fuel t cs = some y → ∃ x : ar r, cD w (fun _ => True) r cs x ∧ Dp r x
 | 0, _, _, _, _, _, h, _ => by cases h
 | n + 1, t, r, fuel, cs, y, h, hd => by
   unfold Dt at h
   cases hu : P.underlying t with
   | none => simp [hu] at h
   | some d =>
     cases d with
     | bool =>
       simp only [hu, Option.some.injEq] at h; subst h; obtain ⟨b, rfl, _⟩ := DataW.trod_bool hu hd; exact ⟨((b : Bool), ()), ⟨_, _, rfl, rN.2 rfl, rfl⟩, nO.2 ⟨U7, Dq _⟩⟩
     | int k =>
       simp only [hu, Option.some.injEq] at h; subst h; obtain ⟨m, rfl, _, hw⟩ := DataW.trod_int hu hd; exact ⟨((m : Int), ()), ⟨_, _, rfl, qD.2 rfl, rfl⟩, nO.2 ⟨aae.2 hw, Dq _⟩⟩
     | string =>
       simp only [hu, Option.some.injEq] at h; subst h; obtain ⟨s, rfl, _, hw⟩ := DataW.trod_string hu hd; exact ⟨((s : ByteArray), ()), ⟨_, _, rfl, vv.2 rfl, rfl⟩, nO.2 ⟨aaf.2 hw, Dq _⟩⟩
     | slice e =>
       simp only [hu] at h
       cases hq : Dt P n e with
       | none => simp [hq] at h
       | some q =>
         simp only [hq] at h; obtain ⟨h1, h2⟩ := aH h; injection h2 with h2; subst h2; rw [Bool.and_eq_true] at h1; have hw := Nat.eq_of_beq_eq_true h1.1; have O7 : 0 < q.width := Nat.le_of_ble_eq_true h1.2; rcases DataW.trod_slice hu hd with ⟨rfl, _⟩ | ⟨a, len, cap, elems, rest, m, _, rfl, _, hb, hl, hm, hlen, hel, _, _⟩
         · exact ⟨(([] : List (ar q)), ()), ⟨_, _, rfl, (nA _ _ _ _ _).2 (.inl ⟨rfl, rfl⟩), rfl⟩, nO.2 ⟨aag.2 ⟨Nat.zero_le _, fun x hx => by cases hx⟩, Dq _⟩⟩
         · have each : ∀ i, i < len → ∃ x : ar q, (cn w (fun _ => True) q a.block (a.off + i * q.width) x ∧ Dp q x) ∧ a.spot = none ∧ a.block < w.heap.size := by
             intro i hi; have h3 := hel i hi; rw [List.getElem?_eq_getElem (by omega), Option.bind_eq_some_iff] at h3; obtain ⟨vs, ze, hy⟩ := h3; obtain ⟨x, hx, hs⟩ := GL n hq hy; obtain ⟨g1, g2, g3⟩ := BG ze; have YO : (a.add (i * P.cellsOf e)).block = a.block := by unfold Addr.add; split <;> rfl
             have hof : (a.add (i * P.cellsOf e)).off = a.off + i * q.width := by
               unfold Addr.add; rw [hw]
               split
               · rename_i h0; rw [h0]; rfl
               · rfl
             rw [YO, hof] at g2; refine ⟨x, ⟨(mF q _ _ x).2 ⟨vs, g2, hx⟩, hs⟩, ?_, ?_⟩
             · have h4 := hel 0 (by omega); rw [List.getElem?_eq_getElem (by omega), Option.bind_eq_some_iff] at h4; obtain ⟨vs0, afb, _⟩ := h4; have := (BG afb).2.2 (by omega); simpa [Addr.add] using this
             · have bN : 0 < vs.length := by omega
               have h5 := Lf (g2 0 vs[0] (by simp [bN])); exact h5
           obtain ⟨xs, JH, Ez⟩ := LG len each; refine ⟨((xs : List (ar q)), ()), ⟨_, _, rfl, (nA _ _ _ _ _).2 (.inr ⟨a, cap, by rw [JH], by rw [JH]; exact hl, fun fe => ?_, fun i x hi => (Ez i x hi).1.1⟩), rfl⟩, ?_⟩
           · have bN : 0 < xs.length := List.length_pos_iff.2 fe; have := (Ez 0 xs[0] (by simp [bN])).2; exact ⟨this.1, this.2, trivial⟩
           · refine nO.2 ⟨aag.2 ⟨by show xs.length ≤ maxLen; omega, fun x hx => ?_⟩, Dq _⟩; obtain ⟨i, hi⟩ := List.getElem?_of_mem hx; exact (Ez i x hi).1.2
     | struct fs =>
       simp only [hu] at h
       cases hq : Ds P (Dt P n) 0 fs.toList with
       | none => simp [hq] at h
       | some q =>
         simp only [hq] at h; obtain ⟨h1, h2⟩ := aH h; injection h2 with h2; subst h2; have hw := Nat.eq_of_beq_eq_true h1; obtain ⟨xs, m, _, _, hlen, Q6, hel⟩ := DataW.trod_struct hu hd; obtain ⟨x, g1, g2⟩ := FE (w := w) (cs := cs) fs.toList 0 q hq (fun f hf p hp => by
           obtain ⟨i, hi⟩ := List.getElem?_of_mem hf; rw [Array.getElem?_toList] at hi; have h3 := hel i f hi; have bN : i < fs.size := (Array.getElem?_eq_some_iff.1 hi).1; rw [List.getElem?_eq_getElem (by omega)] at h3; exact GL n hp h3) (by omega)
         refine ⟨x, ?_, g2⟩; have : (cs.drop 0).take q.width = cs := by rw [List.drop_zero, List.take_of_length_le (by omega)]
         rwa [this] at g1
     | _ => simp [hu] at h
end Go.TM
namespace Go.TM
open Go Go.RowKit Go.ChangeShapes
mutual
theorem Ty.vU : (t : Ty) → Ty.eq? t t = some ⟨rfl⟩
 | .int k => by simp [Ty.eq?]
 | .bool => rfl
 | .str => rfl
 | .sl r => by simp [Ty.eq?, RT.vU r]
theorem RT.vU : (r : RT) → RT.eq? r r = some ⟨rfl⟩
 | .nil => rfl
 | .cons t r => by simp [RT.eq?, Ty.vU t, RT.vU r]
end
theorem J4 (r : RT) (xs : List (ar r)) : bw r xs = some xs := by
 unfold bw; rw [RT.vU]
theorem rW {p : OP} {ps : List OP} {t : RT} {o : OV} {os : List OV} {y : ar t} {x : den p.ty} {z : ar (lB ps t)} (h1 : qO p o = some x) (h2 : cX ps t os y = some z) : cX (p :: ps) t (o :: os) y = some ((x, z) : ar (lB (p :: ps) t)) := by
 unfold cX; rw [h1, h2]; rfl
theorem MP {k : IntKind} {n : Int} : qO (.int k) (.int k n) = some n := if_pos rfl
def mK : RT → List OP
 | .nil => []
 | .cons (.int k) r => .int k :: mK r
 | .cons .bool r => .bool :: mK r
 | .cons .str r => .str :: mK r
 | .cons (.sl q) r => .shr q :: mK r
def Cz.free : Cz := { bx := fun _ => 0, lc := fun _ _ => .nil, own := fun _ => none }
theorem It {w : World} {f : Nat → Lb} : (r : RT) → (t : RT) → (j : Nat) → (vs : List Value) → (x : ar r) → (y : ar t) → cD w (fun _ => True) r vs x → Dp r x →
   ∃ z : ar (lB (mK r) t), bc Cz.free w f j (dq (mK r) t z).1 vs ∧ cX (mK r) t (dq (mK r) t z).1 y = some z ∧ (Dp t y → Dp (lB (mK r) t) z)
 | .nil, t, j, vs, x, y, h, _ => by
   have : vs = [] := h; subst this; exact ⟨y, rfl, rfl, id⟩
 | .cons ty r, t, j, vs, x, y, h, hs => by
   obtain ⟨v, l, rfl, h1, h2⟩ := h; obtain ⟨s1, s2⟩ := nO.1 hs; obtain ⟨z, g1, g2, g3⟩ := It (f := f) r t (j + 1) l x.2 y h2 s2
   cases ty with
   | int k =>
     refine ⟨(x.1, z), ⟨l, by rw [qD.1 h1], g1⟩, ?_, fun hy => nO.2 ⟨s1, g3 hy⟩⟩; exact rW (p := .int k) (o := .int k x.1) (MP) g2
   | bool =>
     refine ⟨(x.1, z), ⟨l, by rw [rN.1 h1], g1⟩, ?_, fun hy => nO.2 ⟨s1, g3 hy⟩⟩; exact rW (p := .bool) (o := .bool x.1) (rfl) g2
   | str =>
     refine ⟨(x.1, z), ⟨l, by rw [vv.1 h1], g1⟩, ?_, fun hy => nO.2 ⟨s1, g3 hy⟩⟩; exact rW (p := .str) (o := .str x.1) (rfl) g2
   | sl q =>
     refine ⟨(x.1, z), ⟨v, l, rfl, bH.stays ⟨Nat.le_refl _, fun _ _ _ => rfl, fun _ _ _ => rfl⟩ _ _ _ h1, g1⟩, ?_, fun hy => nO.2 ⟨s1, g3 hy⟩⟩; exact rW (p := .shr q) (o := .shr q x.1) (J4 q x.1) g2
def OP.same : OP → OP → Bool
 | .int k, .int l => decide (k = l)
 | .bool, .bool => true
 | .str, .str => true
 | .shr r, .shr s => (RT.eq? r s).isSome
 | _, _ => false
theorem OP.zG {p q : OP} (h : p.same q = true) : p = q := by
 cases p <;> cases q <;> simp [OP.same] at h
 · rw [h]
 · rfl
 · rfl
 · rename_i r s; obtain ⟨⟨e⟩, _⟩ := Option.isSome_iff_exists.1 h; rw [e]
def wU : List OP → List OP → Bool
 | [], [] => true
 | p :: l, q :: m => p.same q && wU l m
 | _, _ => false
theorem Du : (l m : List OP) → wU l m = true → l = m
 | [], [], _ => rfl
 | p :: l, q :: m, h => by
   unfold wU at h; rw [Bool.and_eq_true] at h; rw [OP.zG h.1, Du l m h.2]
 | [], _ :: _, h => by simp [wU] at h
 | _ :: _, [], h => by simp [wU] at h
def Jn (P : Program) : List TypeId → List AP → Bool
 | [], [] => true
 | t :: ts, .val agg os :: ps => (match Dt P 30 t with
     | some r => wU (mK r) os
     | none => false) && ((match P.underlying t with | some (.struct _) => agg | _ => !agg) && (P.readableRec t && (Nat.blt t P.types.size && Jn P ts ps)))
 | _, _ => false
theorem one_cell {P : Program} {w : World} {r : Reach} {b : Nat} {t : TypeId} {v : Value} {rt : RT} (hn : Dt P 30 t = some rt) (hs : ∀ fs, P.underlying t ≠ some (.struct fs)) (h : Value.okWide P w r b t v) : v.cells.toList = [v] := by
 cases hu : P.underlying t with
 | none => simp [Dt, hu] at hn
 | some d =>
   cases v <;> try rfl
   rename_i cs
   exfalso
   cases d <;> first | exact hs _ hu | (simp [Dt, hu] at hn; done) | (simp [Value.okWide, hu, Cell.okWide, Cell.ok] at h)
theorem FF {H : Type} {enc : TypeId × Value → H} {P : Program} {w : World} {lc : Nat → Nat → Loc} : (ts : List TypeId) → (ps : List AP) → Jn P ts ps = true → (i : Nat) → (vs : List Value) → (ds : List (DataW H)) → (p : List MemPlace) →
   (∀ (j : Nat) t v, ts[j]? = some t → vs[j]? = some v → ∃ b, Value.okWide P w .any b t v) → DataW.TrodAll enc P w 0 (fun _ => true) true ts vs ds p →
   ∃ (x : ar (aE (ps.map some))) (dt : List AV), eJ ps dt = some x ∧ xJ Cz.free w lc i dt vs ∧ Dp (aE (ps.map some)) x
 | [], [], _, i, vs, ds, p, _, hA => by
   obtain ⟨rfl, _, _⟩ := trodAll_nil hA; exact ⟨(), [], rfl, rfl, Dq _⟩
 | [], _ :: _, hb, _, _, _, _, _, _ => by simp [Jn] at hb
 | t :: ts, [], hb, _, _, _, _, _, _ => by simp [Jn] at hb
 | t :: ts, .io _ _ :: _, hb, _, _, _, _, _, _ => by simp [Jn] at hb
 | t :: ts, .box _ _ :: _, hb, _, _, _, _, _, _ => by simp [Jn] at hb
 | t :: ts, .bB _ :: _, hb, _, _, _, _, _, _ => by simp [Jn] at hb
 | t :: ts, .val agg os :: ps, hb, i, vs, ds, p, qN, hA => by
   obtain ⟨v, vs', d, ds', p', q', rfl, rfl, rfl, h1, h2⟩ := trodAll_cons hA; unfold Jn at hb; rw [Bool.and_eq_true, Bool.and_eq_true, Bool.and_eq_true, Bool.and_eq_true] at hb; obtain ⟨b1, b2, _, _, b5⟩ := hb; obtain ⟨y, dt, g1, g2, g3⟩ := FF (lc := lc) ts ps b5 (i + 1) vs' ds' q' (fun j t v ht hv => qN (j + 1) t v (by simpa using ht) (by simpa using hv)) h2; obtain ⟨b0, fH⟩ := qN 0 t v rfl rfl
   cases hr : Dt P 30 t with
   | none => rw [hr] at b1; cases b1
   | some r =>
     rw [hr] at b1; have sq := Du _ _ b1; subst sq; obtain ⟨fuel, hd⟩ := h1; obtain ⟨x, JH, Ez⟩ := GL 30 hr hd; obtain ⟨z, k1, k2, k3⟩ := It (f := .bG i) r (aE (ps.map some)) 0 v.cells.toList x y JH Ez
     cases agg with
     | false =>
       have hs : ∀ fs, P.underlying t ≠ some (.struct fs) := by
         intro fs e; rw [e] at b2
         cases b2
       rw [one_cell hr hs fH] at k1; refine ⟨z, .val false (dq (mK r) (aE (ps.map some)) z).1 :: dt, ?_, ⟨v, vs', rfl, k1, g2⟩, k3 g3⟩; show (match eJ ps dt with | some y => Fs (.val false (mK r)) (aE (ps.map some)) (.val false _) y | none => none) = _; rw [g1]; exact k2
     | true =>
       obtain ⟨fs, hu⟩ : ∃ fs, P.underlying t = some (.struct fs) := by
         cases hu : P.underlying t with
         | none => rw [hu] at b2; cases b2
         | some d =>
           rw [hu] at b2
           cases d <;> first | exact ⟨_, rfl⟩ | cases b2
       obtain ⟨cs, rfl, _⟩ : ∃ cs, v = .agg cs ∧ True := by
         unfold Value.okWide at fH; rw [hu] at fH; obtain ⟨cs, e, _⟩ := fH; exact ⟨cs, e, trivial⟩
       refine ⟨z, .val true (dq (mK r) (aE (ps.map some)) z).1 :: dt, ?_, ⟨.agg cs, vs', rfl, ⟨cs, rfl, k1⟩, g2⟩, k3 g3⟩; show (match eJ ps dt with | some y => Fs (.val true (mK r)) (aE (ps.map some)) (.val true _) y | none => none) = _; rw [g1]; exact k2
theorem FG {H : Type} {enc : TypeId × Value → H} {P : Program} (hl : laidOutB P = true) {W W' : World} (hb : Below W.heap.size W W') : (ts : List TypeId) → (ps : List AP) → Jn P ts ps = true → (vs : List Value) → (ds : List (DataW H)) → (p : List MemPlace) → (∀ x ∈ p, x.block < W.heap.size) →
   DataW.TrodAll enc P W 0 (fun _ => true) true ts vs ds p → DataW.TrodAll enc P W' 0 (fun b => decide (b < W.heap.size)) true ts vs ds p
 | [], [], _, vs, ds, p, _, hA => by
   obtain ⟨rfl, rfl, rfl⟩ := trodAll_nil hA; exact trodAll_mk0
 | [], _ :: _, hb, _, _, _, _, _ => by simp [Jn] at hb
 | t :: ts, [], hb, _, _, _, _, _ => by simp [Jn] at hb
 | t :: ts, .io _ _ :: _, hb, _, _, _, _, _ => by simp [Jn] at hb
 | t :: ts, .box _ _ :: _, hb, _, _, _, _, _ => by simp [Jn] at hb
 | t :: ts, .bB _ :: _, hb, _, _, _, _, _ => by simp [Jn] at hb
 | t :: ts, .val agg os :: ps, hp, vs, ds, p, bN, hA => by
   obtain ⟨v, vs', d, ds', p', q', rfl, rfl, rfl, h1, h2⟩ := trodAll_cons hA; unfold Jn at hp; rw [Bool.and_eq_true, Bool.and_eq_true, Bool.and_eq_true, Bool.and_eq_true] at hp; obtain ⟨_, _, b3, b4, b5⟩ := hp; exact trodAll_cons_mk (Below.trod hl b3 (Nat.le_of_ble_eq_true b4) h1 hb (fun x hx => bN x (List.mem_append_left _ hx))) (FG hl hb ts ps b5 vs' ds' q' (fun x hx => bN x (List.mem_append_right _ hx)) h2)
theorem MQ {H : Type} {enc : TypeId × Value → H} {P : Program} (hl : laidOutB P = true) {f : FuncId} {ps : List AP} {s : Nat} {t : ar (aE (ps.map some)) → Option (ar (ca [{ src := .tmp s, agg := false, ps := [.bool] }] (bk ps)))}
   (hk : nD P f (kz ps [{ src := .tmp s, agg := false, ps := [.bool] }] t)) {ts : List TypeId} (Rz : Jn P ts ps = true) (afd : ∀ x, Dp (aE (ps.map some)) x → ∃ y, t x = some y ∧ y.1 = true)
   {W : World} {base : Nat} {args : Array Value} {ds : List (DataW H)} {p : List MemPlace} (qN : ∀ (j : Nat) t v, ts[j]? = some t → args[j]? = some v → Value.okWide P W .any base t v)
   (hA : DataW.TrodAll enc P W 0 (fun _ => true) true ts args.toList ds p) (bN : ∀ x ∈ p, x.block < W.heap.size) :
   Calls P f args W fun e W' => e = .returned (.bool true) ∧ Below W.heap.size W W' ∧ DataW.TrodAll enc P W' 0 (fun b => decide (b < W.heap.size)) true ts args.toList ds p := by
 obtain ⟨x, dt, h1, h2, h3⟩ := FF (lc := fun _ _ => .nil) ts ps Rz 0 args.toList ds p (fun j t v ht hv => ⟨base, qN j t v ht (by rwa [Array.getElem?_toList] at hv)⟩) hA; obtain ⟨y, hy, hy1⟩ := afd x h3
 let μ : Mu := { m := fun _ => False, ok := fun _ => True, an := [] }
 have hH : Handed Cz.free W μ := {
   m := fun b => ⟨fun h => h.elim, fun ⟨l, h, _⟩ => by cases h⟩
   ok := fun b => ⟨fun _ => rfl, fun _ => trivial⟩
   lt := fun b l h => by cases h
   lb := fun b l h => by cases h }
 have hs : kz ps [{ src := .tmp s, agg := false, ps := [.bool] }] t dt = some { r := ca [{ src := .tmp s, agg := false, ps := [.bool] }] (bk ps), o := t x, res := fun y => { outs := (fA [{ src := .tmp s, agg := false, ps := [.bool] }] (bk ps) y).1, exts := l6 ps (fA [{ src := .tmp s, agg := false, ps := [.bool] }] (bk ps) y).2 } } := by
   unfold kz; rw [h1]
 refine (hk.ok Cz.free W μ (fun _ _ => .nil) dt args _ y hH h2 hs hy).mono fun e W' ⟨v, he, c', hb, hV, _⟩ => ?_
 have aai : Below W.heap.size W W' := ⟨hb.kept.1, hb.kept.2.1, hb.kept.2.2.1, hb.kept.2.2.2, fun k hk => hb.old k hk (fun h => h.elim)⟩; have hv : v = .bool true := by
   have hV : qJ c' W' [.one (.bool y.1)] v := hV; rcases hV with ⟨r, e1, g⟩ | ⟨g, _⟩
   · simp only [List.cons.injEq, and_true] at e1; subst e1; obtain ⟨v', l, e2, g2, _⟩ := g; simp only [List.cons.injEq] at e2; obtain ⟨e2, _⟩ := e2; obtain ⟨l', g3, _⟩ := g2; simp only [List.cons.injEq] at g3; rw [e2, g3.1, hy1]
   · simp at g
 exact ⟨by rw [he, hv], aai, FG hl aai ts ps Rz args.toList ds p bN hA⟩
theorem fP {a : Int} (h1 : -9223372036854775808 ≤ a) (h2 : a < 9223372036854775808) : IntKind.i64.wrap a = a := by
 rw [IntKind.wrap_i64]; omega
theorem sV {X E : Type} {round : X → Option (Sum X E)} {n : Nat} (st : Nat → X) (g : Nat → Option E) (Py : ∃ e, round (st n) = some (.inr e) ∧ g n = some e)
   (BH : ∀ k, k < n → (∃ e, round (st k) = some (.inr e) ∧ g k = some e) ∨ (round (st k) = some (.inl (st (k + 1))) ∧ g k = g (k + 1))) : ∀ k, k ≤ n → aA round (st k) = g k := by
 have key : ∀ d k, k + d = n → aA round (st k) = g k := by
   intro d
   induction d with
   | zero =>
     intro k hk; have : k = n := by omega
     subst this; obtain ⟨e, h1, h2⟩ := Py; rw [ir, h1, h2]
   | succ d ih =>
     intro k hk; rcases BH k (by omega) with ⟨e, h1, h2⟩ | ⟨h1, h2⟩
     · rw [ir, h1, h2]
     · rw [ir, h1, h2]; exact ih (k + 1) (by omega)
 intro k hk; exact key (n - k) k (by omega)
theorem bd {X E : Type} {round : X → Option (Sum X E)} (n : Nat) (st : Nat → X) {e : E} (Py : round (st n) = some (.inr e))
   (BH : ∀ k, k < n → round (st k) = some (.inl (st (k + 1)))) : aA round (st 0) = some e :=
 sV st (fun _ => some e) ⟨e, Py, rfl⟩ (fun k hk => .inr ⟨BH k hk, rfl⟩) 0 (Nat.zero_le _)
theorem dV {X E : Type} {round : X → Option (Sum X E)} (n : Nat) (I : Nat → X → Prop) (Q : E → Prop) (Py : ∀ x, I n x → ∃ e, round x = some (.inr e) ∧ Q e)
   (BH : ∀ k x, k < n → I k x → (∃ e, round x = some (.inr e) ∧ Q e) ∨ (∃ y, round x = some (.inl y) ∧ I (k + 1) y)) {x : X} (h : I 0 x) : ∃ e, aA round x = some e ∧ Q e := by
 have key : ∀ d k x, k + d = n → I k x → ∃ e, aA round x = some e ∧ Q e := by
   intro d
   induction d with
   | zero =>
     intro k x hk hI; have : k = n := by omega
     subst this; obtain ⟨e, h1, h2⟩ := Py x hI; exact ⟨e, by rw [ir, h1], h2⟩
   | succ d ih =>
     intro k x hk hI; rcases BH k x (by omega) hI with ⟨e, h1, h2⟩ | ⟨y, h1, h2⟩
     · exact ⟨e, by rw [ir, h1], h2⟩
     · obtain ⟨e, h3, h4⟩ := ih (k + 1) y (by omega) h2; exact ⟨e, by rw [ir, h1]; exact h3, h4⟩
 exact key n 0 x (by omega) h
theorem gG {A B C : Type} {a : A} {f : A → Option C} {g : B → Option C} : bz (some (.inl a)) f g = f a := rfl
theorem af {p : Prop} [Decidable p] (h : p) : decide p = true := decide_eq_true h
theorem ai {p : Prop} [Decidable p] (h : ¬ p) : decide p = false := decide_eq_false h
theorem au (k : Nat) : Int.toNat ((k : Nat) : Int) = k := rfl
theorem eZ {a b : Nat} (h : a < b) : Nat.blt a b = true := Nat.ble_eq_true_of_le h
theorem aF {a b : Nat} (h : a ≤ b) : Nat.ble a b = true := Nat.ble_eq_true_of_le h
theorem ak (k : Nat) : decide ((0 : Int) ≤ ((k : Nat) : Int)) = true := af (by omega)
theorem aw {k n : Nat} (h : k < n) : decide (((k : Nat) : Int) < ((n : Nat) : Int)) = true := af (by omega)
theorem az (n : Nat) : decide (((n : Nat) : Int) < ((n : Nat) : Int)) = false := ai (by omega)
theorem aC {k : Nat} (h : k < 4611686018427387904) : IntKind.i64.wrap (((k : Nat) : Int) + (1 : Int)) = (((k + 1 : Nat)) : Int) := by
 rw [fP] <;> omega
theorem Dv (bs : ByteArray) : ∀ (d i : Nat) (r : List UInt8), bs.size - i = d → ByteArray.toList.loop bs i r = r.reverse ++ bs.data.toList.drop i
 | 0, i, r, h => by
   unfold ByteArray.toList.loop; rw [if_neg (by omega)]; have : bs.data.toList.drop i = [] := List.drop_of_length_le (by
     have : bs.data.toList.length = bs.size := Array.length_toList; omega)
   rw [this, List.append_nil]
 | d + 1, i, r, h => by
   unfold ByteArray.toList.loop; have bN : i < bs.size := by omega
   rw [if_pos bN, Dv bs d (i + 1) _ (by omega)]; have afe : i < bs.data.toList.length := by
     have : bs.data.toList.length = bs.size := Array.length_toList; omega
   rw [List.reverse_cons, List.append_assoc, List.drop_eq_getElem_cons afe]
   congr 2
   simp [ByteArray.get!, bN]
theorem Dw (bs : ByteArray) : bs.toList = bs.data.toList := by
 unfold ByteArray.toList; rw [Dv bs _ 0 [] rfl]; simp
theorem MR {a b : ByteArray} : j3 a b = true ↔ a = b := by
 unfold j3; rw [beq_iff_eq]
 constructor
 · intro h; rw [Dw, Dw] at h; obtain ⟨⟨x⟩⟩ := a; obtain ⟨⟨y⟩⟩ := b; exact congrArg (fun l => ByteArray.mk ⟨l⟩) h
 · intro h; rw [h]
theorem l7 (a : ByteArray) : j3 a a = true := MR.2 rfl
def wl {α : Type} (f : α → Nat) (xs : List α) : Nat := xs.foldr (fun x n => f x + n) 0
theorem RX {α : Type} (f : α → Nat) (x : α) (xs : List α) : wl f (x :: xs) = f x + wl f xs := rfl
theorem Va {α : Type} (f : α → Nat) (xs ys : List α) : wl f (xs ++ ys) = wl f xs + wl f ys := by
 induction xs with
 | nil => simp [wl]
 | cons x xs ih =>
   show f x + wl f (xs ++ ys) = f x + wl f xs + wl f ys; rw [ih]; omega
theorem wV {α : Type} (f : α → Nat) (h : ∀ x, f x = 0) (xs : List α) : wl f xs = 0 := by
 induction xs with
 | nil => rfl
 | cons y xs ih => show f y + wl f xs = 0; rw [h, ih]
theorem mL {X Y E F : Type} {r1 : X → Option (Sum X E)} {r2 : Y → Option (Sum Y F)} (n : Nat) (R : Nat → X → Y → Prop) (Q : E → F → Prop)
   (BH : ∀ k x y, k ≤ n → R k x y → (∃ e f, r1 x = some (.inr e) ∧ r2 y = some (.inr f) ∧ Q e f) ∨ (k < n ∧ ∃ x' y', r1 x = some (.inl x') ∧ r2 y = some (.inl y') ∧ R (k + 1) x' y')) {x : X} {y : Y} (h : R 0 x y) :
   ∃ e f, aA r1 x = some e ∧ aA r2 y = some f ∧ Q e f := by
 have key : ∀ d k x y, k + d = n → R k x y → ∃ e f, aA r1 x = some e ∧ aA r2 y = some f ∧ Q e f := by
   intro d
   induction d with
   | zero =>
     intro k x y hk hR; rcases BH k x y (by omega) hR with ⟨e, f, h1, h2, h3⟩ | ⟨bN, _⟩
     · exact ⟨e, f, by rw [ir, h1], by rw [ir, h2], h3⟩
     · omega
   | succ d ih =>
     intro k x y hk hR; rcases BH k x y (by omega) hR with ⟨e, f, h1, h2, h3⟩ | ⟨_, x', y', h1, h2, h3⟩
     · exact ⟨e, f, by rw [ir, h1], by rw [ir, h2], h3⟩
     · obtain ⟨e, f, g1, g2, g3⟩ := ih (k + 1) x' y' (by omega) h3; exact ⟨e, f, by rw [ir, h1]; exact g1, by rw [ir, h2]; exact g2, g3⟩
 exact key n 0 x y (by omega) h
end Go.TM
namespace Go.TM
open Go Go.RowKit
def qu (P : Program) : Nat → RT → List Field → Bool
 | _, .nil, [] => true
 | off, .cons t r, f :: fs => Nat.beq f.offset off && ((f.name != "_") && (P.plainKey f.type && (Ip P f.type t && qu P (off + 1) r fs)))
 | _, _, _ => false
def AG (P : Program) (t : TypeId) (r : RT) : Bool :=
 match P.underlying t with
 | some (.struct fs) => !P.stoodInHeld t && (!P.eqGuardType P.depth t && qu P 0 r fs.toList)
 | _ => false
def Tu (P : Program) (t : Nat) (r : Rec) : Bool := !r.eq || (match r.row with | some q => AG P t q | none => false)
theorem J5 {P : Program} {c : Cz} {st : St} {w w' : World} {t : TypeId} {ty : Ty} {d : Nat} {a b : CV} {x y : Value} {r : Bool} {q : RT} {l : List CV} (hk : Ip P t ty = true) (hf : qB (.cons ty q) (a :: l) = true) (h : tj a b = some r) (hx : jw c st w a x) (hy : jw c st w b y) :
   (Op.equalIn (d + 1) t x y).run P w' = .ok r w' ∧ qB q l = true := by
 cases ty with
 | sl _ => cases a <;> simp [qB] at hf
 | int k =>
   obtain ⟨e, he, h2⟩ := eY hk
   cases a <;> try (simp [qB] at hf; done)
   rename_i k1 n; simp only [qB, Bool.and_eq_true, decide_eq_true_eq] at hf
   cases b <;> try (simp [tj] at h; done)
   rename_i k2 m; simp only [tj] at h
   split at h
   · rename_i Q9; subst Q9
     cases h
     cases e <;> simp at h2
     have hx : x = .int k1 n := hx; have hy : y = .int k1 m := hy; subst hx hy; refine ⟨?_, hf.2⟩; rw [run_equalIn_int w' d t k1 _ n m he]
     congr 1
   · cases h
 | bool =>
   obtain ⟨e, he, h2⟩ := eY hk
   cases a <;> try (simp [qB] at hf; done)
   cases b <;> try (simp [tj] at h; done)
   rename_i p q'; simp only [tj, Option.some.injEq] at h; subst h
   cases e <;> simp at h2
   have hx : x = .bool p := hx; have hy : y = .bool q' := hy; subst hx hy; exact ⟨run_equalIn_bool' w' d t p q' he, hf⟩
 | str =>
   obtain ⟨e, he, h2⟩ := eY hk
   cases a <;> try (simp [qB] at hf; done)
   cases b <;> try (simp [tj] at h; done)
   rename_i p q'; simp only [tj, Option.some.injEq] at h; subst h
   cases e <;> simp at h2
   have hx : x = .string p := hx; have hy : y = .string q' := hy; subst hx hy; exact ⟨run_equalIn_string w' d t p q' he, hf⟩
theorem zH {P : Program} {c : Cz} {st : St} {w w' : World} {d : Nat} {us vs : Array Value} : (fs : List Field) → (off : Nat) → (q : RT) → (l m : List CV) → {b : Bool} → qu P off q fs = true → qB q l = true → mC l m = some b →
   eH c st w l (us.toList.drop off) → eH c st w m (vs.toList.drop off) → (Op.eqFields (d + 1) us vs fs).run P w' = .ok b w'
 | [], off, q, l, m, b, hf, qG, hc, hl, hm => by
   cases q with
   | cons t r => cases t <;> simp [qu] at hf
   | nil =>
     cases l with
     | cons _ _ => simp [qB] at qG
     | nil => cases m with
       | cons _ _ => simp [mC] at hc
       | nil =>
         simp only [mC, Option.some.injEq] at hc; subst hc; simp [Op.eqFields]
 | f :: fs, off, q, l, m, b, hf, qG, hc, hl, hm => by
   cases q with
   | nil => simp [qu] at hf
   | cons t r =>
     unfold qu at hf; rw [Bool.and_eq_true, Bool.and_eq_true, Bool.and_eq_true, Bool.and_eq_true] at hf; obtain ⟨h1, h2, h3, h4, h5⟩ := hf; have h1 := Nat.eq_of_beq_eq_true h1
     cases l with
     | nil => cases t <;> simp [qB] at qG
     | cons x l => cases m with
       | nil => simp [mC] at hc
       | cons y m =>
         simp only [mC] at hc
         cases he : tj x y with
         | none => simp [he] at hc
         | some b1 =>
           cases hes : mC l m with
           | none => simp [he, hes] at hc
           | some b2 =>
             simp only [he, hes, Option.some.injEq] at hc; subst hc; have E7 : off < us.size := by
               have := hl.1; simp at this; omega
             have yQ : off < vs.size := by
               have := hm.1; simp at this; omega
             have hdu : us.toList.drop off = us[off] :: us.toList.drop (off + 1) := by
               have : off < us.toList.length := by simpa using E7
               rw [List.drop_eq_getElem_cons this]; simp
             have ZC : vs.toList.drop off = vs[off] :: vs.toList.drop (off + 1) := by
               have : off < vs.toList.length := by simpa using yQ
               rw [List.drop_eq_getElem_cons this]; simp
             rw [hdu] at hl; rw [ZC] at hm; have rx := hl.2 0 x us[off] rfl rfl; have ry := hm.2 0 y vs[off] rfl rfl; obtain ⟨k1, k2⟩ := J5 (w' := w') (d := d) h4 qG he rx ry; have rl : eH c st w l (us.toList.drop (off + 1)) := ⟨by have := hl.1; simpa using this, fun i a v ha hv => hl.2 (i + 1) a v (by simpa using ha) (by simpa using hv)⟩; have rm : eH c st w m (vs.toList.drop (off + 1)) := ⟨by have := hm.1; simpa using this, fun i a v ha hv => hm.2 (i + 1) a v (by simpa using ha) (by simpa using hv)⟩; have ih := zH (w' := w') (d := d) fs (off + 1) r l m h5 k2 hes rl rm; unfold Op.eqFields; rw [if_pos (by simpa using h2)]; have p1 : (part f.type us f.offset).run P w' = .ok us[off] w' := run_part_plain w' h3 (by rw [h1]; exact Array.getElem?_eq_getElem E7); have p2 : (part f.type vs f.offset).run P w' = .ok vs[off] w' := run_part_plain w' h3 (by rw [h1]; exact Array.getElem?_eq_getElem yQ); simp only [Sem.run_bind, p1, p2, k1, Result.andThen_ok]
             cases b1
             · simp
             · simp [ih]
theorem GM {P : Program} {tr : Tr} (h : tr.all (Tu P) = true) : u9 P (j5 tr) := by
 intro t ht c st w l m us vs b op ox oy qG hc hl hm w'; have ht : (match tr.find t with | some r => r.eq | none => false) = true := ht
 cases hf : tr.find t with
 | none => rw [hf] at ht; cases ht
 | some r =>
   rw [hf] at ht; have ht : r.eq = true := ht; have h1 := Tr.zF tr h hf; unfold Tu at h1; rw [ht, Bool.not_true, Bool.false_or] at h1; unfold ki.fits at qG; have eV : (j5 tr).row t = r.row := by show (match tr.find t with | some r => r.row | none => none) = _; rw [hf]
   rw [eV] at qG
   cases hq : r.row with
   | none => rw [hq] at h1; cases h1
   | some q =>
     rw [hq] at h1 qG; have h1 : AG P t q = true := h1; have qG : qB q l = true := qG; unfold AG at h1
     split at h1
     · rename_i fs hu; rw [Bool.and_eq_true, Bool.and_eq_true, Bool.not_eq_true', Bool.not_eq_true'] at h1; have hfo : P.fieldsOf t = fs := by unfold Program.fieldsOf; rw [hu]
       refine ⟨run_eqGuard_agg w' op t ox oy us vs h1.2.1, ?_⟩; show (Op.equalIn (9999 + 1) t (.agg us) (.agg vs)).run P w' = .ok b w'; rw [run_equalIn_struct w' 9999 t us vs (by rw [hfo]; exact hu) h1.1, hfo]; exact zH (d := 9998) fs.toList 0 q l m h1.2.2 qG hc (by simpa using hl) (by simpa using hm)
     · cases h1
end Go.TM
namespace Go.TM
open Go Go.RowKit
def Iu (n : Nat) (ps : List AP) (x : ar (aE (ps.map some))) : St := aS (start n ps x) (some 0) (.one .dD)
def LH (n : Nat) (r : RT) (xs : List (ar r)) (ps : List AP) (x : ar (aE (ps.map some))) : St := aS (start n ps x) (some 0) (.one (.nn r xs))
theorem Iv {P : Program} {tr : Tr} (hT : tr.all (uX P) = true) (hE : u9 P (j5 tr)) (hm : P.follows .mixedOrders = true) {S : ju} (hS : l5 P S) {D : kn} {f : FuncId} {fn : Func} {code : Code} {n : Nat} {r : RT} {qs : List AP} {rs : List RP}
   {L : mE (ar (ca rs (bk (.val false [.shr r] :: qs))))} {t : ar (aE ((AP.val false [.shr r] :: qs).map some)) → Option (ar (ca rs (bk (.val false [.shr r] :: qs))))}
   (hf : P.funcs[f]? = some fn) (hb : fn.body = some code) (oY : Tt (j5 tr) D fn code n (.val false [.shr r] :: qs) rs = true) (Ir : (fn.name == "runtime.NumGoroutine") = false)
   (hL : ∀ (w0 : World) (mu : Mu) (y : ar (ca rs (bk (.val false [.shr r] :: qs)))), lJ (.val false [.shr r] :: qs) mu → ∀ p ∈ cY code, lW P w0 mu n L y p.1 p.2)
   (Pz : ∀ z, dI (j5 tr) S D L code (Iu n (.val false [.shr r] :: qs) (([] : List (ar r)), z)) (zA rs (.val false [.shr r] :: qs)) = t (([] : List (ar r)), z))
   (hnn : ∀ x, dI (j5 tr) S D L code (LH n r x.1 (.val false [.shr r] :: qs) x) (zA rs (.val false [.shr r] :: qs)) = t x) : nD P f (kz (.val false [.shr r] :: qs) rs t) := by
 unfold Tt at oY; rw [Bool.and_eq_true, Bool.and_eq_true, Bool.and_eq_true, Bool.and_eq_true] at oY; obtain ⟨h1, h2, h3, h4, h5⟩ := oY; refine ⟨Ii (jW hT) hE hS hf hb (Nat.eq_of_beq_eq_true h1) (Nat.le_of_ble_eq_true h2) h3 (fun tm => wT tm _ _ h4) (fun w0 mu y hs => pV code (hL w0 mu y hs))
   (fun w0 mu => sS (jW hT) hE hm (pT (jW hT) hE hS w0 mu n)) (rV code h5) (fun w0 mu c a w x hR hn => ?_), fn, hf, Ir, by rw [hb]; rfl⟩
 have O7 : 0 < n := by
   have := Nat.le_of_ble_eq_true h2; simp at this; omega
 have sN := hR.eI 0; have hg : bK (start n (.val false [.shr r] :: qs) x) 0 = .one (.shr r x.1) := rfl; rw [hg] at sN; have CE : bH w c.ok (.sl r) (a.eval (.tmp 0)) x.1 := sN; have h0 : 0 < a.tmps.size := by omega
 by_cases hv : a.eval (.tmp 0) = .slice none 0 0
 · refine ⟨c, Iu n (.val false [.shr r] :: qs) x, ?_, ?_⟩
   · have := hR.aS (d := some 0) (v := .one .dD) (u := a.eval (.tmp 0)) hv (fun k e => by cases e; exact h0)
     rwa [CY a 0 _ h0 rfl] at this
   · have hx : x.1 = ([] : List (ar r)) := by
       rcases (nA _ _ _ _ _).1 CE with ⟨_, h⟩ | ⟨_, _, h, _⟩
       · exact h
       · rw [hv] at h; cases h
     obtain ⟨x1, z⟩ := x; simp only at hx; subst hx; exact Pz z
 · refine ⟨c, LH n r x.1 (.val false [.shr r] :: qs) x, ?_, hnn x⟩; have := hR.aS (d := some 0) (v := .one (.nn r x.1)) (u := a.eval (.tmp 0)) ⟨CE, hv⟩ (fun k e => by cases e; exact h0)
   rwa [CY a 0 _ h0 rfl] at this
end Go.TM
namespace Go.TM
open Go Go.RowKit
section
variable {R : Type} (T : ki) (S : ju) (D : kn) (L : mE R)
noncomputable def Iw : Nat → Code → St → (St → Option R) → (Ex → St → Option R) → Option R
 | 0, _, st, g, _ => g st
 | n + 1, .seq a b, st, g, k => dI T S D L a st fun e aP => match e with
   | .normal => Iw n b aP g k
   | e => k e aP
 | _, _, _, _, _ => none
end
def BI : Nat → Code → Code
 | 0, c => c
 | n + 1, .seq _ b => BI n b
 | _, _ => .skip
theorem FH {n : Nat} : (m : Nat) → (c : Code) → eR n c = true → eR n (BI m c) = true
 | 0, _, h => h
 | m + 1, c, h => by
   cases c with
   | seq a b =>
     unfold eR at h; rw [Bool.and_eq_true] at h; exact FH m b h.2
   | _ => rfl
theorem BJ {ok : Nat → Code → Prop} : (m : Nat) → (c : Code) → dw ok c → dw ok (BI m c)
 | 0, _, h => h
 | m + 1, c, h => by
   cases c with
   | seq a b => exact BJ m b h.2
   | _ => exact trivial
theorem Dx {ok : Nat → Array Oper → Prop} : (m : Nat) → (c : Code) → dK ok c → dK ok (BI m c)
 | 0, _, h => h
 | m + 1, c, h => by
   cases c with
   | seq a b => exact Dx m b h.2
   | _ => exact trivial
theorem Ix {R : Type} {P : Program} {T : ki} {S : ju} {D : kn} {L : mE R} {w0 : World} {mu : Mu} {n : Nat} {r : R} {ok : Nat → Array Oper → Prop} (EA : rS P T S w0 mu n) (hD : qo R P T S D w0 mu n ok)
   {k : Ex → St → Option R} {Q : Exit → Act → World → Prop} (hk : Lp w0 mu n r k Q) {g : St → Option R} : (m : Nat) → (cd : Code) → eR n cd = true → dw (lW P w0 mu n L r) cd → dK ok cd →
   (∀ {c : Cz} {st : St} {a : Act} {w : World}, Rel w0 mu c st a w → a.tmps.size = n → g st = some r → (BI m cd).wp P Q a w) →
   {c : Cz} → {st : St} → {a : Act} → {w : World} → Rel w0 mu c st a w → a.tmps.size = n → Iw T S D L m cd st g k = some r → cd.wp P Q a w
 | 0, cd, _, _, _, hg, c, st, a, w, h, hn, hv => hg h hn hv
 | m + 1, cd, hd, hL, hw, hg, c, st, a, w, h, hn, hv => by
   cases cd with
   | seq x y =>
     have hv : (dI T S D L x st fun e aP => match e with
       | .normal => Iw T S D L m y aP g k
       | e => k e aP) = some r := hv
     unfold eR at hd; rw [Bool.and_eq_true] at hd; refine wp_seq (zm EA hD x hd.1 hL.1 hw.1 (fun {e} {c} {st} {a} {w} h1 h2 h3 => ?_) h hn hv)
     cases e with
     | normal => exact Ix EA hD hk m y hd.2 hL.2 hw.2 hg h1 h2 h3
     | exit m => exact hk h1 h2 h3
     | ret => exact hk h1 h2 h3
   | _ => have hv : (none : Option R) = some r := hv; cases hv
def aaj {R : Type} (P : Program) (w0 : World) (mu : Mu) (n : Nat) (k : Ex → St → Option R) (r : R) (b : Code) (hp : List (Option AP)) (g : ar (aE hp) → Option R) : Prop :=
 ∀ x, g x = some r → ∀ {Q : Exit → Act → World → Prop}, Lp w0 mu n r k Q → ∀ {c : Cz} {a : Act} {w : World}, Rel w0 mu c (nM hp x) a w → a.tmps.size = n → b.wp P Q a w
structure Seg (tr : Tr) (S : ju) (D : kn) (n : Nat) (ps : List AP) {R : Type} (L : mE R) (k : Ex → St → Option R) (P : Program) (b : Code) (hp : List (Option AP)) (g : ar (aE hp) → Option R) : Prop where
 ok : ∀ (w0 : World) (mu : Mu) (r : R), lJ ps mu → eR n b = true → dK (fun id ops => Dm ops (D id) = true) b → dw (lW P w0 mu n L r) b → aaj P w0 mu n k r b hp g
theorem PA {P : Program} {tr : Tr} (hT : tr.all (uX P) = true) (hE : u9 P (j5 tr)) (hm : P.follows .mixedOrders = true) {S : ju} (hS : l5 P S) {D : kn} {n : Nat} {ps : List AP} {R : Type} {L : mE R} {k : Ex → St → Option R} {b : Code} {hp : List (Option AP)} {g : ar (aE hp) → Option R}
   (h : ∀ x, dI (j5 tr) S D L b (nM hp x) k = g x) : Seg tr S D n ps L k P b hp g :=
 ⟨fun w0 mu _ _ hd hw hL x hx _ hk _ _ _ hr hn => zm (pT (jW hT) hE hS w0 mu n) (sS (jW hT) hE hm (pT (jW hT) hE hS w0 mu n)) b hd hL hw hk hr hn ((h x).trans hx)⟩
theorem Iy {P : Program} {tr : Tr} (hT : tr.all (uX P) = true) (hE : u9 P (j5 tr)) (hm : P.follows .mixedOrders = true) {S : ju} (hS : l5 P S) {D : kn} {f : FuncId} {fn : Func} {code b' : Code} {n m : Nat} {ps : List AP} {rs : List RP}
   {L : mE (ar (ca rs (bk ps)))} {t : ar (aE (ps.map some)) → Option (ar (ca rs (bk ps)))} {ku : List (Option AP)} {g' : ar (aE ku) → Option (ar (ca rs (bk ps)))}
   (hf : P.funcs[f]? = some fn) (hb : fn.body = some code) (oY : Tt (j5 tr) D fn code n ps rs = true) (Ir : (fn.name == "runtime.NumGoroutine") = false)
   (hL : ∀ (w0 : World) (mu : Mu) (y : ar (ca rs (bk ps))), lJ ps mu → ∀ p ∈ cY code, lW P w0 mu n L y p.1 p.2)
   (hr : BI m code = b') (qG : fO ps ku = true) (JZ : ∀ x, Iw (j5 tr) S D L m code (start n ps x) (fun st => (Dk st ku).bind g') (zA rs ps) = t x)
   (hs : Seg tr S D n ps L (zA rs ps) P b' ku g') : nD P f (kz ps rs t) := by
 unfold Tt at oY; rw [Bool.and_eq_true, Bool.and_eq_true, Bool.and_eq_true, Bool.and_eq_true] at oY; obtain ⟨h1, h2, h3, h4, h5⟩ := oY; refine ⟨fun c w mu lc dt args A y hH hA iE ho => ?_, fn, hf, Ir, by rw [hb]; rfl⟩; unfold kz at iE
 cases hx : eJ ps dt with
 | none => rw [hx] at iE; cases iE
 | some x =>
   rw [hx] at iE; simp only [Option.some.injEq] at iE; subst iE; have Cn : t x = some y := ho; obtain ⟨Cm, c', hmm, fH, Di, LA, Dh, ME, hR⟩ := Ih hH hA hx (Nat.le_of_ble_eq_true h2); refine calls_of_wp hf hb ?_; have hn := Nat.eq_of_beq_eq_true h1; rw [hn]; have kO : (args ++ Array.replicate (n - args.size) undef).size = n := by
     have : args.size ≤ n := by
       have h6 := Nat.le_of_ble_eq_true h2; have h7 := (wR ps 0 dt args.toList hx hA).2.1; simp at h7; omega
     simp; omega
   have hlp := pV code (hL w Cm y Di); have hdr := rV code h5; refine Ix (pT (jW hT) hE hS w Cm n) (sS (jW hT) hE hm (pT (jW hT) hE hS w Cm n)) (k := zA rs ps) (r := y) (fun {e} {c1} {Ak} {a1} {w1} q1 q2 q3 => ?_) m code h3 hlp hdr (fun {c1} {Ak} {a1} {w1} q1 q2 q3 => ?_) hR kO ((JZ x).trans Cn)
   · obtain ⟨he, v, oE, c2, Fi, hV, hX⟩ := JY (P := P) (jW hT) hmm fH q1 (wT a1.tmps _ _ h4) ME.symm (by rw [← Dh]; simp) LA q3; have C7 : a1.defers = [] ∧ ∃ v, (results fn a1.tmps).run P w1 = .ok v w1 ∧ (∃ v', Ending.returned v = .returned v' ∧ ∃ c', Aq w mu c' w1 ∧ qJ c' w1 (fA rs (bk ps) y).1 v' ∧ iq c' w1 lc 0 dt args.toList (l6 ps (fA rs (bk ps) y).2)) :=
       ⟨q1.plain, v, oE, v, rfl, c2, Fi, hV, hX⟩
     rcases he with rfl | rfl <;> exact C7
   · obtain ⟨z, hz, q4⟩ := Option.bind_eq_some_iff.1 q3; obtain ⟨c2, q5⟩ := Dl q1 Di qG hz; rw [hr]; refine hs.ok w Cm y Di (hr ▸ FH m code h3) (hr ▸ Dx m code hdr) (hr ▸ BJ m code hlp) z q4 (fun {e} {c1} {Ak} {a1} {w1} q1 q2 q3 => ?_) q5 q2; obtain ⟨he, v, oE, c2, Fi, hV, hX⟩ := JY (P := P) (jW hT) hmm fH q1 (wT a1.tmps _ _ h4) ME.symm (by rw [← Dh]; simp) LA q3; have C7 : a1.defers = [] ∧ ∃ v, (results fn a1.tmps).run P w1 = .ok v w1 ∧ (∃ v', Ending.returned v = .returned v' ∧ ∃ c', Aq w mu c' w1 ∧ qJ c' w1 (fA rs (bk ps) y).1 v' ∧ iq c' w1 lc 0 dt args.toList (l6 ps (fA rs (bk ps) y).2)) :=
       ⟨q1.plain, v, oE, v, rfl, c2, Fi, hV, hX⟩
     rcases he with rfl | rfl <;> exact C7
end Go.TM
namespace Go.TM
open Go Go.RowKit
noncomputable section
structure TK (P : Program) where
 tr : Tr
 hT : tr.all (uX P) = true
 hE : u9 P (j5 tr)
 hm : P.follows .mixedOrders = true
structure KF (P : Program) where
 f : FuncId
 m : Pm × Pm × Pm
 Bk : u6
 ok : nD P f Bk
def KF.sl {P : Program} (k : KF P) : Nat × (Pm × Pm × Pm × u6) := (k.f, (k.m.1, k.m.2.1, k.m.2.2, k.Bk))
def Vb {P : Program} : List (KF P) → U6
 | [] => []
 | k :: l => k.sl :: Vb l
theorem FI {P : Program} : (l : List (KF P)) → l5 P (xP (Vb l))
 | [] => Px
 | k :: l => MN k.ok (FI l)
def kw {P : Program} {f : FuncId} {s : u6} (h : nD P f s) : KF P := ⟨f, (.shr, .shr, .shr), s, h⟩
def kv {P : Program} (m : Pm × Pm × Pm) {f : FuncId} {s : u6} (h : nD P f s) : KF P := ⟨f, m, s, h⟩
structure LD where
 i : Nat
 b : Code
 hp : List (Option AP)
 e : List (Option AP)
 q : List (Option AP)
 r : ar (aE hp) → Option (Sum (ar (aE hp)) (Sum (ar (aE e)) (ar (aE q))))
def LD.Ok (l : LD) (P : Program) (n : Nat) (ps : List AP) : Prop :=
 ∀ {R : Type} (L : mE R) (y : R) (w0 : World) (mu : Mu), (∀ st k, L l.i l.b st k = AE l.hp l.e l.q l.r st k) → lJ ps mu → lW P w0 mu n L y l.i l.b
structure Vc (P : Program) (n : Nat) (ps : List AP) where
 d : LD
 ok : d.Ok P n ps
def mj {P : Program} {n : Nat} {ps : List AP} {R : Type} : List (Vc P n ps) → mE R
 | [] => YT
 | l :: ls => fun id b st k => bif Nat.beq id l.d.i then AE l.d.hp l.d.e l.d.q l.d.r st k else mj ls id b st k
def Dy {P : Program} {n : Nat} {ps : List AP} : List (Vc P n ps) → List (Nat × Code)
 | [] => []
 | l :: ls => (l.d.i, l.d.b) :: Dy ls
def Iz {P : Program} {n : Nat} {ps : List AP} : List (Vc P n ps) → Bool
 | [] => true
 | l :: ls => ls.all (fun m => !Nat.beq m.d.i l.d.i) && Iz ls
theorem PB {P : Program} {n : Nat} {ps : List AP} {R : Type} : (ls : List (Vc P n ps)) → Iz ls = true → ∀ l ∈ ls, ∀ st (k : Ex → St → Option R), mj ls l.d.i l.d.b st k = AE l.d.hp l.d.e l.d.q l.d.r st k
 | [], _, l, h => by cases h
 | m :: ls, hb, l, h => by
   intro st k; unfold Iz at hb; rw [Bool.and_eq_true] at hb; rcases List.mem_cons.1 h with rfl | h
   · show (bif Nat.beq l.d.i l.d.i then _ else _) = _; rw [Nat.beq_refl]; rfl
   · show (bif Nat.beq l.d.i m.d.i then _ else mj ls l.d.i l.d.b st k) = _; have := List.all_eq_true.1 hb.1 l h; rw [Bool.not_eq_true'] at this; rw [this]; exact PB ls hb.2 l h st k
theorem LI {P : Program} {n : Nat} {ps : List AP} : (ls : List (Vc P n ps)) → ∀ p ∈ Dy ls, ∃ l ∈ ls, p = (l.d.i, l.d.b)
 | [], p, h => by cases h
 | m :: ls, p, h => by
   rcases List.mem_cons.1 h with rfl | h
   · exact ⟨m, List.mem_cons_self, rfl⟩
   · obtain ⟨l, h1, h2⟩ := LI ls p h; exact ⟨l, List.mem_cons_of_mem _ h1, h2⟩
theorem GN {P : Program} {n : Nat} {ps : List AP} {R : Type} {ls : List (Vc P n ps)} (hb : Iz ls = true) {c : Code} (hc : cY c = Dy ls) (y : R) (w0 : World) (mu : Mu) (hs : lJ ps mu) : ∀ p ∈ cY c, lW P w0 mu n (mj ls) y p.1 p.2 := by
 rw [hc]; intro p hp; obtain ⟨l, hl, rfl⟩ := LI ls p hp; exact l.ok (mj ls) y w0 mu (PB ls hb l hl) hs
structure FC (P : Program) where
 t : TK P
 l : List (KF P)
 D : kn
 fn : Func
 ps : List AP
abbrev FC.code {P : Program} (F : FC P) : Code := Pw F.fn
abbrev FC.S {P : Program} (F : FC P) : ju := xP (Vb F.l)
abbrev FC.T {P : Program} (F : FC P) : ki := j5 F.t.tr
abbrev FC.KL {P : Program} (F : FC P) : Type := Vc P F.fn.ntmps F.ps
abbrev FC.Ok {P : Program} (F : FC P) (l : LD) : Prop := l.Ok P F.fn.ntmps F.ps
abbrev FC.fin {P : Program} (F : FC P) (rs : List RP) : Ex → St → Option (ar (ca rs (bk F.ps))) := zA rs F.ps
def FC.lp {P : Program} (F : FC P) (j : Nat) : Code := mJ F.code j
theorem FC.kl {P : Program} (F : FC P) {l : LD} (ls : List F.KL) (h1 : (FB F.D F.ps l.hp l.e l.q F.fn.ntmps l.b && Iz ls) = true) (h2 : cY l.b = Dy ls)
   (ht : ∀ x, dI F.T F.S F.D (mj ls) l.b (nM l.hp x) (AD l.i l.hp l.e l.q) = l.r x) : F.Ok l := by
 rw [Bool.and_eq_true] at h1; exact fun _ _ w0 mu hL hs => MO F.t.hT F.t.hE F.t.hm (FI F.l) hs h1.1 (fun z => GN h1.2 h2 z w0 mu hs) ht hL
theorem FC.mM {P : Program} (F : FC P) {l : LD} (h : ∀ x, (FB F.D F.ps l.hp l.e l.q F.fn.ntmps l.b && (cY l.b).isEmpty, dI F.T F.S F.D YT l.b (nM l.hp x) (AD l.i l.hp l.e l.q)) = (true, l.r x)) : F.Ok l := by
 have h1 := congrArg Prod.fst (h (sF _)); have h1 : (FB F.D F.ps l.hp l.e l.q F.fn.ntmps l.b && (cY l.b).isEmpty) = true := h1; rw [Bool.and_eq_true] at h1; have ht : ∀ x, dI F.T F.S F.D YT l.b (nM l.hp x) (AD l.i l.hp l.e l.q) = l.r x := fun x => congrArg Prod.snd (h x)
 have g : F.Ok l := F.kl [] (by rw [h1.1]; rfl) (List.isEmpty_iff.1 h1.2) ht; exact @g
abbrev FC.afg {P : Program} (F : FC P) (rs : List RP) (t : RS (aE (F.ps.map some)) (Option (ar (ca rs (bk F.ps))))) : u6 := kz F.ps rs (Cf (aE (F.ps.map some)) t)
abbrev FC.Kn {P : Program} (F : FC P) (rs : List RP) (f : FuncId) (t : RS (aE (F.ps.map some)) (Option (ar (ca rs (bk F.ps))))) : Prop := nD P f (F.afg rs t)
def FC.Tv {P : Program} (F : FC P) (rs : List RP) : Bool := F.fn.body.isSome && (Tt F.T F.D F.fn F.code F.fn.ntmps F.ps rs && !(F.fn.name == "runtime.NumGoroutine"))
theorem FC.J6 {P : Program} {F : FC P} {rs : List RP} (h : F.Tv rs = true) : F.fn.body = some F.code ∧ Tt F.T F.D F.fn F.code F.fn.ntmps F.ps rs = true ∧ (F.fn.name == "runtime.NumGoroutine") = false := by
 unfold FC.Tv at h; rw [Bool.and_eq_true, Bool.and_eq_true, Bool.not_eq_true'] at h; obtain ⟨h1, h2, h3⟩ := h; refine ⟨?_, h2, h3⟩; obtain ⟨c, hc⟩ := Option.isSome_iff_exists.1 h1; unfold FC.code Pw; rw [hc]
theorem FC.kf {P : Program} (F : FC P) {rs : List RP} {f : FuncId} {t : RS (aE (F.ps.map some)) (Option (ar (ca rs (bk F.ps))))} (ls : List F.KL) (hf : P.funcs[f]? = some F.fn) (h1 : (F.Tv rs && Iz ls) = true) (h2 : cY F.code = Dy ls)
   (ht : ∀ x, dI F.T F.S F.D (mj ls) F.code (start F.fn.ntmps F.ps x) (F.fin rs) = Cf (aE (F.ps.map some)) t x) : F.Kn rs f t := by
 rw [Bool.and_eq_true] at h1; obtain ⟨hb, hc, hn⟩ := F.J6 h1.1; exact RU F.t.hT F.t.hE F.t.hm (FI F.l) (D := F.D) (L := mj ls) hf hb hc hn (fun w0 mu y hs => GN h1.2 h2 y w0 mu hs) ht
theorem FC.oc {P : Program} (F : FC P) {rs : List RP} {f : FuncId} {t : RS (aE (F.ps.map some)) (Option (ar (ca rs (bk F.ps))))} (hf : P.funcs[f]? = some F.fn)
   (h : ∀ x, (F.Tv rs && (cY F.code).isEmpty, dI F.T F.S F.D YT F.code (start F.fn.ntmps F.ps x) (F.fin rs)) = (true, Cf (aE (F.ps.map some)) t x)) : F.Kn rs f t := by
 have h1 := congrArg Prod.fst (h (sF _)); have h1 : (F.Tv rs && (cY F.code).isEmpty) = true := h1; rw [Bool.and_eq_true] at h1; exact F.kf [] hf (by rw [h1.1]; rfl) (List.isEmpty_iff.1 h1.2) fun x => congrArg Prod.snd (h x)
theorem FC.kf1 {P : Program} (F : FC P) {rs : List RP} {f : FuncId} {t : RS (aE (F.ps.map some)) (Option (ar (ca rs (bk F.ps))))} (hf : P.funcs[f]? = some F.fn) (h1 : (F.Tv rs && (cY F.code).isEmpty) = true)
   (ht : ∀ x, dI F.T F.S F.D YT F.code (start F.fn.ntmps F.ps x) (F.fin rs) = Cf (aE (F.ps.map some)) t x) : F.Kn rs f t := by
 rw [Bool.and_eq_true] at h1; exact F.kf [] hf (by rw [h1.1]; rfl) (List.isEmpty_iff.1 h1.2) ht
theorem FC.kl1 {P : Program} (F : FC P) {l : LD} (h1 : (FB F.D F.ps l.hp l.e l.q F.fn.ntmps l.b && (cY l.b).isEmpty) = true)
   (ht : ∀ x, dI F.T F.S F.D YT l.b (nM l.hp x) (AD l.i l.hp l.e l.q) = l.r x) : F.Ok l := by
 rw [Bool.and_eq_true] at h1; have g : F.Ok l := F.kl [] (by rw [h1.1]; rfl) (List.isEmpty_iff.1 h1.2) ht; exact @g
theorem FC.kfn {P : Program} (F : FC P) {rs : List RP} {f : FuncId} {t : RS (aE (F.ps.map some)) (Option (ar (ca rs (bk F.ps))))} (ls : List F.KL) (hf : P.funcs[f]? = some F.fn) (r : RT) (qs : List AP) (hq : F.ps = .val false [.shr r] :: qs) (h1 : (F.Tv rs && Iz ls) = true) (h2 : cY F.code = Dy ls)
   (h4 : ∀ x, dI F.T F.S F.D (mj ls) F.code (aS (start F.fn.ntmps F.ps (hq ▸ (([] : List (ar r)), x))) (some 0) (.one .dD)) (F.fin rs) = Cf (aE (F.ps.map some)) t (hq ▸ (([] : List (ar r)), x)))
   (h5 : ∀ x, dI F.T F.S F.D (mj ls) F.code (aS (start F.fn.ntmps F.ps (hq ▸ x)) (some 0) (.one (.nn r x.1))) (F.fin rs) = Cf (aE (F.ps.map some)) t (hq ▸ x)) : F.Kn rs f t := by
 rw [Bool.and_eq_true] at h1; obtain ⟨hb, hc, hn⟩ := F.J6 h1.1; obtain ⟨tt, l, D, fn, ps⟩ := F; simp only at hq; subst hq; exact Iv tt.hT tt.hE tt.hm (FI l) (D := D) (L := mj ls) hf hb hc hn (fun w0 mu y hs => GN h1.2 h2 y w0 mu hs) h4 h5
theorem FC.aal {P : Program} (F : FC P) (ls : List F.KL) {R : Type} {k : Ex → St → Option R} {b : Code} {hp : List (Option AP)} {g : ar (aE hp) → Option R} (h : ∀ x, dI F.T F.S F.D (mj ls) b (nM hp x) k = g x) : Seg F.t.tr F.S F.D F.fn.ntmps F.ps (mj ls) k P b hp g :=
 PA F.t.hT F.t.hE F.t.hm (FI F.l) h
theorem FC.afj {P : Program} (F : FC P) (ls : List F.KL) {rs : List RP} {f : FuncId} {t : RS (aE (F.ps.map some)) (Option (ar (ca rs (bk F.ps))))} (hf : P.funcs[f]? = some F.fn) (m : Nat) {b' : Code} {ku : List (Option AP)} {g' : ar (aE ku) → Option (ar (ca rs (bk F.ps)))} (hs : Seg F.t.tr F.S F.D F.fn.ntmps F.ps (mj ls) (F.fin rs) P b' ku g')
   (h1 : (F.Tv rs && (Iz ls && fO F.ps ku)) = true) (h2 : cY F.code = Dy ls) (hr : BI m F.code = b') (ht : ∀ x, Iw F.T F.S F.D (mj ls) m F.code (start F.fn.ntmps F.ps x) (fun st => (Dk st ku).bind g') (F.fin rs) = Cf (aE (F.ps.map some)) t x) : F.Kn rs f t := by
 rw [Bool.and_eq_true, Bool.and_eq_true] at h1; obtain ⟨hb, hc, hn⟩ := F.J6 h1.1; exact Iy F.t.hT F.t.hE F.t.hm (FI F.l) (D := F.D) (L := mj ls) hf hb hc hn (fun w0 mu y hs => GN h1.2.1 h2 y w0 mu hs) hr h1.2.2 ht hs
def sp : List (Nat × AP) → Nat → List (Option AP)
 | [], k => nn k
 | (g, p) :: l, k => nn g ++ some p :: sp l k
abbrev vl (l : List OP) : AP := .val false l
abbrev va (l : List OP) : AP := .val true l
abbrev Pl.a (i : Nat) (p : Pl) : Pl := .op i .any p
abbrev Pl.t (i : Nat) (p : Pl) : Pl := .op i .take p
abbrev Pl.o (i : Nat) (p : Pl) : Pl := .op i .one p
abbrev Pl.l (i : Nat) (p : Pl) : Pl := .op i .last p
def dr (i : Nat) (p : Pl) (D : kn := kg) : kn := fun id => bif Nat.beq id i then p else D id
end
end Go.TM
