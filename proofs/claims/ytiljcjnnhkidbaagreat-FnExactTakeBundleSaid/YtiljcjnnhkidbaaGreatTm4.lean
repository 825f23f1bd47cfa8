/- A machine over trees: an evaluator of the code, and that what it finds is so; part 4. -/
import Derived.Test.YtiljcjnnhkidbaaGreatTm3
import Derived.Carry
import Derived.ChangeArms
import Derived.ChangeOld
import Derived.OpenShut
import Derived.Laws.StructEq
import Derived.ChangeKeysEq
set_option linter.unusedSimpArgs false
set_option linter.unusedVariables false
namespace Go.TM
open Go Go.RowKit
def dP : Code → List (Nat × Code)
 | .seq a b => dP a ++ dP b
 | .cond _ a b => dP a ++ dP b
 | .block id (.loop b) => [(id, b)]
 | .block _ a => dP a
 | _ => []
theorem tu {ok : Nat → Code → Prop} : (c : Code) → (∀ p ∈ dP c, ok p.1 p.2) → fq ok c := by
 intro c
 induction c with
 | seq a b OD OE =>
   intro h; unfold dP at h; exact ⟨OD fun p hp => h p (List.mem_append_left _ hp), OE fun p hp => h p (List.mem_append_right _ hp)⟩
 | cond x a b OD OE =>
   intro h; unfold dP at h; exact ⟨OD fun p hp => h p (List.mem_append_left _ hp), OE fun p hp => h p (List.mem_append_right _ hp)⟩
 | block id a ih =>
   intro h
   by_cases hb : ∃ b', a = .loop b'
   · obtain ⟨b', rfl⟩ := hb; exact h (id, b') (by unfold dP; exact List.mem_cons_self)
   · cases a with
     | loop b' => exact absurd ⟨b', rfl⟩ hb
     | _ => unfold dP at h; unfold fq; exact ih h
 | _ => intro _; unfold fq; trivial
def CX (c : Code) (i : Nat) : Code := match nth (dP c) i with | some p => p.2 | none => .skip
def jf (D : mL) : Code → Bool
 | .region id ops true => AE ops (D id)
 | .seq a b => jf D a && jf D b
 | .cond _ a b => jf D a && jf D b
 | .block _ (.loop _) => true
 | .block _ a => jf D a
 | _ => true
theorem uW {D : mL} : (c : Code) → jf D c = true → fH (fun id ops => AE ops (D id) = true) c := by
 intro c
 induction c with
 | region id ops dr =>
   intro h
   cases dr with
   | true => exact h
   | false => unfold fH; trivial
 | seq a b OD OE =>
   intro h; unfold jf at h; rw [Bool.and_eq_true] at h; exact ⟨OD h.1, OE h.2⟩
 | cond x a b OD OE =>
   intro h; unfold jf at h; rw [Bool.and_eq_true] at h; exact ⟨OD h.1, OE h.2⟩
 | block id a ih =>
   intro h
   by_cases hb : ∃ b', a = .loop b'
   · obtain ⟨b', rfl⟩ := hb; unfold fH; trivial
   · cases a with
     | loop b' => exact absurd ⟨b', rfl⟩ hb
     | _ => unfold jf at h; unfold fH; exact ih h
 | _ => intro _; unfold fH; trivial
def Src.same : Src → Src → Bool
 | .tmp a, .tmp b => Nat.beq a b
 | .cell a, .cell b => Nat.beq a b
 | .ptr a, .ptr b => Nat.beq a b
 | _, _ => false
theorem Src.xq : {a b : Src} → a.same b = true → a = b
 | .tmp _, .tmp _, h => congrArg Src.tmp (Nat.eq_of_beq_eq_true h)
 | .cell _, .cell _, h => congrArg Src.cell (Nat.eq_of_beq_eq_true h)
 | .ptr _, .ptr _, h => congrArg Src.ptr (Nat.eq_of_beq_eq_true h)
 | .tmp _, .cell _, h => by cases h
 | .tmp _, .ptr _, h => by cases h
 | .cell _, .tmp _, h => by cases h
 | .cell _, .ptr _, h => by cases h
 | .ptr _, .tmp _, h => by cases h
 | .ptr _, .cell _, h => by cases h
def EE (T : la) : List ResultVar → List RP → Bool
 | [], [] => true
 | .tmp t :: vs, r :: rs => (r.src.same (.tmp t) || r.src.same (.ptr t)) && EE T vs rs
 | .cell t ty :: vs, r :: rs => r.src.same (.cell t) && ((match T.cells ty with | some n => Nat.beq n r.ps.length | none => false) && ((T.agg ty == r.agg) && EE T vs rs))
 | _, _ => false
theorem zD {T : la} (tm : Array Value) : (vs : List ResultVar) → (rs : List RP) → EE T vs rs = true → wj T tm vs rs
 | [], [], _ => trivial
 | [], _ :: _, h => by simp [EE] at h
 | v :: _, [], h => by cases v <;> simp [EE] at h
 | .tmp t :: vs, r :: rs, h => by
   unfold EE at h; rw [Bool.and_eq_true, Bool.or_eq_true] at h; exact ⟨h.1.imp Src.xq Src.xq, zD tm vs rs h.2⟩
 | .cell t ty :: vs, r :: rs, h => by
   unfold EE at h; rw [Bool.and_eq_true, Bool.and_eq_true, Bool.and_eq_true] at h; obtain ⟨h1, h2, h3, h4⟩ := h; refine ⟨⟨Src.xq h1, ?_, by simpa using h3⟩, zD tm vs rs h4⟩
   cases hc : T.cells ty with
   | none => rw [hc] at h2; cases h2
   | some n => rw [hc] at h2; rw [Nat.eq_of_beq_eq_true h2]
abbrev OF := List (Nat × (Pm × Pm × Pm × vW))
def wo : OF → ld
 | [], _ => none
 | (g, s) :: l, f => bif Nat.beq f g then some s else wo l f
structure uX (P : Program) (f : FuncId) (yy : vW) : Prop where
 ok : FnOk P f yy
 fn : ∃ fn, P.funcs[f]? = some fn ∧ (fn.name == "runtime.NumGoroutine") = false ∧ fn.body.isNone = false
theorem KG {P : Program} : oL P (wo []) := fun f a b c yy h => by cases h
theorem H8 {P : Program} {g : Nat} {a b c : Pm} {yy : vW} {l : OF} (hk : uX P g yy) (hl : oL P (wo l)) : oL P (wo ((g, (a, b, c, yy)) :: l)) := by
 intro f a' b' c' YR h; unfold wo at h
 cases hb : Nat.beq f g with
 | true =>
   rw [hb] at h; injection h with h; injection h with _ h; injection h with _ h; injection h with _ h; subst h; rw [Nat.eq_of_beq_eq_true hb]; exact ⟨hk.ok, hk.fn⟩
 | false => rw [hb] at h; exact hl f a' b' c' YR h
def RI (T : la) (D : mL) (fn : Func) (code : Code) (n : Nat) (ps : List AP) (rs : List RP) : Bool :=
 Nat.beq fn.ntmps n && (Nat.ble ps.length n && (ja n code && (EE T fn.results.toList rs && jf D code)))
theorem Mw {P : Program} {tr : Tr} (hT : tr.all (xp P) = true) (hE : wc P (og tr)) (hm : P.follows .mixedOrders = true) {S : ld} (hS : oL P S) {D : mL} {f : FuncId} {fn : Func} {code : Code} {n : Nat} {ps : List AP} {rs : List RP}
   {L : p9 (ar (dn rs (cq ps)))} {t : ar (aE (ps.map some)) → Option (ar (dn rs (cq ps)))}
   (hf : P.funcs[f]? = some fn) (hb : fn.body = some code) (rV : RI (og tr) D fn code n ps rs = true) (KH : (fn.name == "runtime.NumGoroutine") = false)
   (hL : ∀ (w0 : World) (mu : Mu) (y : ar (dn rs (cq ps))), np ps mu → ∀ p ∈ dP code, oJ P w0 mu n L y p.1 p.2)
   (KB : ∀ x, fU (og tr) S D L code (start n ps x) (FR rs ps) = t x) : uX P f (sI ps rs t) := by
 unfold RI at rV; rw [Bool.and_eq_true, Bool.and_eq_true, Bool.and_eq_true, Bool.and_eq_true] at rV; obtain ⟨h1, h2, h3, h4, h5⟩ := rV; refine ⟨Tt (rY hT) hE hS hf hb (Nat.eq_of_beq_eq_true h1) (Nat.le_of_ble_eq_true h2) h3 (fun tm => zD tm _ _ h4) (fun w0 mu y hs => tu code (hL w0 mu y hs))
   (fun w0 mu => x8 (rY hT) hE hm (xh (rY hT) hE hS w0 mu n)) (uW code h5) KB, fn, hf, KH, by rw [hb]; rfl⟩
def B9 (D : mL) (ps : List AP) (hp e0 e1 : List (Option AP)) (n : Nat) (b : Code) : Bool :=
 (iC ps hp && (iC ps e0 && iC ps e1)) && (ja n b && jf D b)
theorem H9 {R : Type} {P : Program} {tr : Tr} (hT : tr.all (xp P) = true) (hE : wc P (og tr)) (hm : P.follows .mixedOrders = true) {S : ld} (hS : oL P S) {D : mL} {n id : Nat} {w0 : World} {mu : Mu} {ps : List AP} {hp e0 e1 : List (Option AP)} {b : Code} {r : R} {L : p9 R}
   {L' : p9 (Sum (ar (aE hp)) (Sum (ar (aE e0)) (ar (aE e1))))} {round : ar (aE hp) → Option (Sum (ar (aE hp)) (Sum (ar (aE e0)) (ar (aE e1))))}
   (hs : np ps mu) (rV : B9 D ps hp e0 e1 n b = true)
   (yI : ∀ z, ∀ p ∈ dP b, oJ P w0 mu n L' z p.1 p.2) (FT : ∀ x, fU (og tr) S D L' b (qQ hp x) (x5 id hp e0 e1) = round x) (hL : ∀ st k, L id b st k = x6 hp e0 e1 round st k) : oJ P w0 mu n L r id b := by
 unfold B9 at rV; rw [Bool.and_eq_true, Bool.and_eq_true (ja n b)] at rV; exact Mt (xh (rY hT) hE hS w0 mu n) (x8 (rY hT) hE hm (xh (rY hT) hE hS w0 mu n)) hs rV.1 rV.2.1 (uW b rV.2.2) (fun z => tu b (yI z)) FT hL
def cM {A B C : Type} (o : Option (Sum A B)) (f : A → Option C) (g : B → Option C) : Option C :=
 o.bind fun z => match z with
   | .inl y => f y
   | .inr y => g y
end Go.TM
namespace Go.TM
open Go Go.RowKit Go.ChangeShapes
def RT.app : RT → RT → RT
 | .nil, s => s
 | .cons t r, s => .cons t (r.app s)
def Mx : (r s : RT) → ar r → ar s → ar (r.app s)
 | .nil, _, _, y => y
 | .cons _ r, s, x, y => (x.1, Mx r s x.2 y)
mutual
def xr : (t : Ty) → den t → Prop
 | .int k, n => (Lit.int k n).wf = true
 | .bool, _ => True
 | .str, s => ByteArray.size s ≤ maxLen
 | .sl r, xs => (GM xs).length ≤ maxLen ∧ ∀ x ∈ GM xs, xt r x
def xt : (r : RT) → ar r → Prop
 | .nil, _ => True
 | .cons t r, x => xr t x.1 ∧ xt r x.2
end
theorem AG (x : ar .nil) : xt .nil x := xt.eq_1 x ▸ trivial
theorem aa {t : Ty} {r : RT} {x : ar (.cons t r)} : xt (.cons t r) x ↔ xr t x.1 ∧ xt r x.2 := xt.eq_2 t r x ▸ Iff.rfl
theorem Ny {k : IntKind} {n : Int} : xr (.int k) n ↔ (Lit.int k n).wf = true := xr.eq_1 k n ▸ Iff.rfl
theorem OG {b : Bool} : xr .bool b := xr.eq_2 b ▸ trivial
theorem Nz {s : ByteArray} : xr .str s ↔ ByteArray.size s ≤ maxLen := xr.eq_3 s ▸ Iff.rfl
theorem My {r : RT} {xs : List (ar r)} : xr (.sl r) xs ↔ (xs.length ≤ maxLen ∧ ∀ x ∈ xs, xt r x) := xr.eq_4 r xs ▸ Iff.rfl
theorem RT.x9 : (r s : RT) → (r.app s).width = r.width + s.width
 | .nil, s => by simp [RT.app, RT.width]
 | .cons t r, s => by simp [RT.app, RT.width, RT.x9 r s]; omega
theorem cZ.cat {w : World} {ok : Nat → Prop} : (r s : RT) → (l m : List Value) → (x : ar r) → (y : ar s) → cZ w ok r l x → cZ w ok s m y → cZ w ok (r.app s) (l ++ m) (Mx r s x y)
 | .nil, s, l, m, x, y, h, h' => by
   have : l = [] := h; subst this; exact h'
 | .cons t r, s, l, m, x, y, h, h' => by
   obtain ⟨v, l', rfl, h1, h2⟩ := h; exact ⟨v, l' ++ m, rfl, h1, cZ.cat r s l' m x.2 y h2 h'⟩
theorem xt.cat : (r s : RT) → (x : ar r) → (y : ar s) → xt r x → xt s y → xt (r.app s) (Mx r s x y)
 | .nil, _, _, _, _, h' => h'
 | .cons t r, s, x, y, h, h' => by
   exact aa.2 ⟨(aa.1 h).1, xt.cat r s x.2 y (aa.1 h).2 h'⟩
def AH (P : Program) (row : TypeId → Option RT) : Nat → List Field → Option RT
 | _, [] => some .nil
 | off, f :: fs => match row f.type with
   | some q => (match AH P row (off + q.width) fs with
     | some r => bif Nat.beq f.offset off && Nat.beq (P.cellsOf f.type) q.width then some (q.app r) else none
     | none => none)
   | none => none
def AI (P : Program) : Nat → TypeId → Option RT
 | 0, _ => none
 | n + 1, t => match P.underlying t with
   | some .bool => some (.cons .bool .nil)
   | some (.int k) => some (.cons (.int k) .nil)
   | some .string => some (.cons .str .nil)
   | some (.slice e) => (match AI P n e with
     | some q => bif Nat.beq (P.cellsOf e) q.width && Nat.blt 0 q.width then some (.cons (.sl q) .nil) else none
     | none => none)
   | some (.struct fs) => (match AH P (AI P n) 0 fs.toList with
     | some r => bif Nat.beq (P.cellsOf t) r.width then some r else none
     | none => none)
   | _ => none
theorem Hc {α : Type} {Pr : Nat → α → Prop} : (n : Nat) → (∀ i, i < n → ∃ x, Pr i x) → ∃ xs : List α, xs.length = n ∧ ∀ (i : Nat) x, xs[i]? = some x → Pr i x
 | 0, _ => ⟨[], rfl, fun i x h => by simp at h⟩
 | n + 1, h => by
   obtain ⟨xs, h1, h2⟩ := Hc n (fun i hi => h i (by omega)); obtain ⟨x, hx⟩ := h n (by omega); refine ⟨xs ++ [x], by simp [h1], fun i y hy => ?_⟩
   by_cases hi : i < n
   · rw [List.getElem?_append_left (by omega)] at hy; exact h2 i y hy
   · rw [List.getElem?_append_right (by omega)] at hy; have yI : i = n := by
       have := (List.getElem?_eq_some_iff.1 hy).1; simp at this; omega
     subst yI; rw [h1, Nat.sub_self] at hy; simp at hy; rw [← hy]; exact hx
theorem Ca {w : World} {a : Addr} {v : Value} (h : w.cell? a = some v) : a.spot = none := by
 unfold World.cell? at h
 split at h
 · split at h
   · cases h
   · rename_i hs; simpa using hs
 · cases h
theorem EF {α β : Type} {f : α → Option β} : (l : List α) → {m : List β} → l.mapM f = some m → m.length = l.length ∧ ∀ (i : Nat) a, l[i]? = some a → f a = m[i]?
 | [], m, h => by
   simp at h; subst h; exact ⟨rfl, fun i a ha => by simp at ha⟩
 | a :: l, m, h => by
   rw [List.mapM_cons] at h
   cases ha : f a with
   | none => simp [ha] at h
   | some b =>
     cases hl : l.mapM f with
     | none => simp [ha, hl] at h
     | some m' =>
       simp [ha, hl] at h; subst h; obtain ⟨h1, h2⟩ := EF l hl; refine ⟨by simp [h1], fun i x hx => ?_⟩
       cases i with
       | zero => simp at hx; subst hx; simpa using ha
       | succ i => simpa using h2 i x (by simpa using hx)
theorem yV {w : World} {base n : Nat} {a : Addr} {vs : List Value} (h : w.cells? base a n = some vs) : vs.length = n ∧ w.rangeAt a.block a.off vs ∧ (0 < n → a.spot = none) := by
 unfold World.cells? at h
 split at h
 · obtain ⟨h1, h2⟩ := EF _ h; simp at h1; have each : ∀ j v, vs[j]? = some v → w.cell? (a.add j) = some v := by
     intro j v hv; have hj : j < n := by
       have := (List.getElem?_eq_some_iff.1 hv).1; omega
     rw [h2 j j (by simp [hj]), hv]
   refine ⟨h1, fun j v hv => ?_, fun hn => ?_⟩
   · have := each j v hv; have hs := Ca this; have e : a.add j = ⟨a.block, a.off + j, none⟩ := by
       unfold Addr.add at hs ⊢
       split
       · rename_i h0; subst h0; rw [if_pos rfl] at hs; obtain ⟨b, o, s⟩ := a; simp at hs; subst hs; rfl
       · rfl
     rw [← e]; exact this
   · have dC : 0 < vs.length := by omega
     have := each 0 vs[0] (by simp [dC]); have hs := Ca this; simpa [Addr.add] using hs
 · cases h
theorem Cb {P : Program} {w : World} {cs : List Value} {row : TypeId → Option RT} : (fs : List Field) → (off : Nat) → (r : RT) → AH P row off fs = some r →
   (∀ f ∈ fs, ∀ q, row f.type = some q → ∃ x : ar q, cZ w (fun _ => True) q ((cs.drop f.offset).take (P.cellsOf f.type)) x ∧ xt q x) → off + r.width ≤ cs.length →
   ∃ x : ar r, cZ w (fun _ => True) r ((cs.drop off).take r.width) x ∧ xt r x
 | [], off, r, h, _, _ => by
   simp only [AH, Option.some.injEq] at h; subst h; exact ⟨(), by simp [RT.width, cZ], AG _⟩
 | f :: fs, off, r, h, hf, hl => by
   unfold AH at h
   cases hq : row f.type with
   | none => simp [hq] at h
   | some q =>
     simp only [hq] at h
     cases hr : AH P row (off + q.width) fs with
     | none => simp [hr] at h
     | some r' =>
       simp only [hr] at h; obtain ⟨h1, h2⟩ := aI h; injection h2 with h2; subst h2; rw [Bool.and_eq_true] at h1; have ho := Nat.eq_of_beq_eq_true h1.1; have hc := Nat.eq_of_beq_eq_true h1.2; rw [RT.x9] at hl; obtain ⟨x, HG, DV⟩ := hf f List.mem_cons_self q hq; obtain ⟨y, YS, hy2⟩ := Cb fs (off + q.width) r' hr (fun g hg => hf g (List.mem_cons_of_mem _ hg)) (by omega); refine ⟨Mx q r' x y, ?_, xt.cat q r' x y DV hy2⟩; rw [RT.x9, List.take_add, List.drop_drop]; rw [ho, hc] at HG; exact cZ.cat q r' _ _ x y HG YS
theorem CY {H : Type} {enc : TypeId × Value → H} {P : Program} {w : World} {base : Nat} {spare : Nat → Bool} {held : Bool} : (n : Nat) → ∀ {t : TypeId} {r : RT} {fuel : Nat} {cs : List Value} {y : DataW H × List MemPlace}, AI P n t = some r →
   DataW.trod enc P w base spare held fuel t cs = some y → ∃ x : ar r, cZ w (fun _ => True) r cs x ∧ xt r x
 | 0, _, _, _, _, _, h, _ => by cases h
 | n + 1, t, r, fuel, cs, y, h, hd => by
   unfold AI at h
   cases hu : P.underlying t with
   | none => simp [hu] at h
   | some d =>
     cases d with
     | bool =>
       simp only [hu, Option.some.injEq] at h; subst h; obtain ⟨b, rfl, _⟩ := DataW.trod_bool hu hd; exact ⟨((b : Bool), ()), ⟨_, _, rfl, rj.2 rfl, rfl⟩, aa.2 ⟨OG, AG _⟩⟩
     | int k =>
       simp only [hu, Option.some.injEq] at h; subst h; obtain ⟨m, rfl, _, hw⟩ := DataW.trod_int hu hd; exact ⟨((m : Int), ()), ⟨_, _, rfl, s8.2 rfl, rfl⟩, aa.2 ⟨Ny.2 hw, AG _⟩⟩
     | string =>
       simp only [hu, Option.some.injEq] at h; subst h; obtain ⟨s, rfl, _, hw⟩ := DataW.trod_string hu hd; exact ⟨((s : ByteArray), ()), ⟨_, _, rfl, uw.2 rfl, rfl⟩, aa.2 ⟨Nz.2 hw, AG _⟩⟩
     | slice e =>
       simp only [hu] at h
       cases hq : AI P n e with
       | none => simp [hq] at h
       | some q =>
         simp only [hq] at h; obtain ⟨h1, h2⟩ := aI h; injection h2 with h2; subst h2; rw [Bool.and_eq_true] at h1; have hw := Nat.eq_of_beq_eq_true h1.1; have Ol : 0 < q.width := Nat.le_of_ble_eq_true h1.2; rcases DataW.trod_slice hu hd with ⟨rfl, _⟩ | ⟨a, len, cap, elems, rest, m, _, rfl, _, hb, hl, hm, hlen, Ia, _, _⟩
         · exact ⟨(([] : List (ar q)), ()), ⟨_, _, rfl, (oc _ _ _ _ _).2 (.inl ⟨rfl, rfl⟩), rfl⟩, aa.2 ⟨My.2 ⟨Nat.zero_le _, fun x hx => by cases hx⟩, AG _⟩⟩
         · have each : ∀ i, i < len → ∃ x : ar q, (dt w (fun _ => True) q a.block (a.off + i * q.width) x ∧ xt q x) ∧ a.spot = none ∧ a.block < w.heap.size := by
             intro i hi; have h3 := Ia i hi; rw [List.getElem?_eq_getElem (by omega), Option.bind_eq_some_iff] at h3; obtain ⟨vs, wT, hy⟩ := h3; obtain ⟨x, hx, hs⟩ := CY n hq hy; obtain ⟨g1, g2, g3⟩ := yV wT; have RD : (a.add (i * P.cellsOf e)).block = a.block := by unfold Addr.add; split <;> rfl
             have hof : (a.add (i * P.cellsOf e)).off = a.off + i * q.width := by
               unfold Addr.add; rw [hw]
               split
               · rename_i h0; rw [h0]; rfl
               · rfl
             rw [RD, hof] at g2; refine ⟨x, ⟨(nh q _ _ x).2 ⟨vs, g2, hx⟩, hs⟩, ?_, ?_⟩
             · have h4 := Ia 0 (by omega); rw [List.getElem?_eq_getElem (by omega), Option.bind_eq_some_iff] at h4; obtain ⟨vs0, YT, _⟩ := h4; have := (yV YT).2.2 (by omega); simpa [Addr.add] using this
             · have dC : 0 < vs.length := by omega
               have h5 := GN (g2 0 vs[0] (by simp [dC])); exact h5
           obtain ⟨xs, HG, DV⟩ := Hc len each; refine ⟨((xs : List (ar q)), ()), ⟨_, _, rfl, (oc _ _ _ _ _).2 (.inr ⟨a, cap, by rw [HG], by rw [HG]; exact hl, fun ik => ?_, fun i x hi => (DV i x hi).1.1⟩), rfl⟩, ?_⟩
           · have dC : 0 < xs.length := List.length_pos_iff.2 ik; have := (DV 0 xs[0] (by simp [dC])).2; exact ⟨this.1, this.2, trivial⟩
           · refine aa.2 ⟨My.2 ⟨by show xs.length ≤ maxLen; omega, fun x hx => ?_⟩, AG _⟩; obtain ⟨i, hi⟩ := List.getElem?_of_mem hx; exact (DV i x hi).1.2
     | struct fs =>
       simp only [hu] at h
       cases hq : AH P (AI P n) 0 fs.toList with
       | none => simp [hq] at h
       | some q =>
         simp only [hq] at h; obtain ⟨h1, h2⟩ := aI h; injection h2 with h2; subst h2; have hw := Nat.eq_of_beq_eq_true h1; obtain ⟨xs, m, _, _, hlen, Nq, Ia⟩ := DataW.trod_struct hu hd; obtain ⟨x, g1, g2⟩ := Cb (w := w) (cs := cs) fs.toList 0 q hq (fun f hf p hp => by
           obtain ⟨i, hi⟩ := List.getElem?_of_mem hf; rw [Array.getElem?_toList] at hi; have h3 := Ia i f hi; have dC : i < fs.size := (Array.getElem?_eq_some_iff.1 hi).1; rw [List.getElem?_eq_getElem (by omega)] at h3; exact CY n hp h3) (by omega)
         refine ⟨x, ?_, g2⟩; have : (cs.drop 0).take q.width = cs := by rw [List.drop_zero, List.take_of_length_le (by omega)]
         rwa [this] at g1
     | _ => simp [hu] at h
end Go.TM
namespace Go.TM
open Go Go.RowKit Go.ChangeShapes
mutual
theorem Ty.uY : (t : Ty) → Ty.eq? t t = some ⟨rfl⟩
 | .int k => by simp [Ty.eq?]
 | .bool => rfl
 | .str => rfl
 | .sl r => by simp [Ty.eq?, RT.uY r]
theorem RT.uY : (r : RT) → RT.eq? r r = some ⟨rfl⟩
 | .nil => rfl
 | .cons t r => by simp [RT.eq?, Ty.uY t, RT.uY r]
end
theorem FX (r : RT) (xs : List (ar r)) : cm r xs = some xs := by
 unfold cm; rw [RT.uY]
theorem rB {p : OP} {ps : List OP} {t : RT} {o : OV} {os : List OV} {y : ar t} {x : den p.ty} {z : ar (mQ ps t)} (h1 : tY p o = some x) (h2 : eG ps t os y = some z) : eG (p :: ps) t (o :: os) y = some ((x, z) : ar (mQ (p :: ps) t)) := by
 unfold eG; rw [h1, h2]; rfl
theorem Ib {k : IntKind} {n : Int} : tY (.int k) (.int k n) = some n := if_pos rfl
def nq : RT → List OP
 | .nil => []
 | .cons (.int k) r => .int k :: nq r
 | .cons .bool r => .bool :: nq r
 | .cons .str r => .str :: nq r
 | .cons (.sl q) r => .shr q :: nq r
def Cz.free : Cz := { bx := fun _ => 0, lc := fun _ _ => .nil, own := fun _ => none }
theorem EG {w : World} {f : Nat → Lb} : (r : RT) → (t : RT) → (j : Nat) → (vs : List Value) → (x : ar r) → (y : ar t) → cZ w (fun _ => True) r vs x → xt r x →
   ∃ z : ar (mQ (nq r) t), bI Cz.free w f j (dG (nq r) t z).1 vs ∧ eG (nq r) t (dG (nq r) t z).1 y = some z ∧ (xt t y → xt (mQ (nq r) t) z)
 | .nil, t, j, vs, x, y, h, _ => by
   have : vs = [] := h; subst this; exact ⟨y, rfl, rfl, id⟩
 | .cons ty r, t, j, vs, x, y, h, hs => by
   obtain ⟨v, l, rfl, h1, h2⟩ := h; obtain ⟨s1, s2⟩ := aa.1 hs; obtain ⟨z, g1, g2, g3⟩ := EG (f := f) r t (j + 1) l x.2 y h2 s2
   cases ty with
   | int k =>
     refine ⟨(x.1, z), ⟨l, by rw [s8.1 h1], g1⟩, ?_, fun hy => aa.2 ⟨s1, g3 hy⟩⟩; exact rB (p := .int k) (o := .int k x.1) (Ib) g2
   | bool =>
     refine ⟨(x.1, z), ⟨l, by rw [rj.1 h1], g1⟩, ?_, fun hy => aa.2 ⟨s1, g3 hy⟩⟩; exact rB (p := .bool) (o := .bool x.1) (rfl) g2
   | str =>
     refine ⟨(x.1, z), ⟨l, by rw [uw.1 h1], g1⟩, ?_, fun hy => aa.2 ⟨s1, g3 hy⟩⟩; exact rB (p := .str) (o := .str x.1) (rfl) g2
   | sl q =>
     refine ⟨(x.1, z), ⟨v, l, rfl, cr.stays ⟨Nat.le_refl _, fun _ _ _ => rfl, fun _ _ _ => rfl⟩ _ _ _ h1, g1⟩, ?_, fun hy => aa.2 ⟨s1, g3 hy⟩⟩; exact rB (p := .shr q) (o := .shr q x.1) (FX q x.1) g2
def OP.same : OP → OP → Bool
 | .int k, .int l => decide (k = l)
 | .bool, .bool => true
 | .str, .str => true
 | .shr r, .shr s => (RT.eq? r s).isSome
 | _, _ => false
theorem OP.xq {p q : OP} (h : p.same q = true) : p = q := by
 cases p <;> cases q <;> simp [OP.same] at h
 · rw [h]
 · rfl
 · rfl
 · rename_i r s; obtain ⟨⟨e⟩, _⟩ := Option.isSome_iff_exists.1 h; rw [e]
def vA : List OP → List OP → Bool
 | [], [] => true
 | p :: l, q :: m => p.same q && vA l m
 | _, _ => false
theorem AJ : (l m : List OP) → vA l m = true → l = m
 | [], [], _ => rfl
 | p :: l, q :: m, h => by
   unfold vA at h; rw [Bool.and_eq_true] at h; rw [OP.xq h.1, AJ l m h.2]
 | [], _ :: _, h => by simp [vA] at h
 | _ :: _, [], h => by simp [vA] at h
def Fh (P : Program) : List TypeId → List AP → Bool
 | [], [] => true
 | t :: ts, .val agg os :: ps => (match AI P 30 t with
     | some r => vA (nq r) os
     | none => false) && ((match P.underlying t with | some (.struct _) => agg | _ => !agg) && (P.readableRec t && (Nat.blt t P.types.size && Fh P ts ps)))
 | _, _ => false
theorem one_cell {P : Program} {w : World} {r : Reach} {b : Nat} {t : TypeId} {v : Value} {rt : RT} (hn : AI P 30 t = some rt) (hs : ∀ fs, P.underlying t ≠ some (.struct fs)) (h : Value.okWide P w r b t v) : v.cells.toList = [v] := by
 cases hu : P.underlying t with
 | none => simp [AI, hu] at hn
 | some d =>
   cases v <;> try rfl
   rename_i cs
   exfalso
   cases d <;> first | exact hs _ hu | (simp [AI, hu] at hn; done) | (simp [Value.okWide, hu, Cell.okWide, Cell.ok] at h)
theorem Cc {H : Type} {enc : TypeId × Value → H} {P : Program} {w : World} {lc : Nat → Nat → Loc} : (ts : List TypeId) → (ps : List AP) → Fh P ts ps = true → (i : Nat) → (vs : List Value) → (ds : List (DataW H)) → (p : List MemPlace) →
   (∀ (j : Nat) t v, ts[j]? = some t → vs[j]? = some v → ∃ b, Value.okWide P w .any b t v) → DataW.TrodAll enc P w 0 (fun _ => true) true ts vs ds p →
   ∃ (x : ar (aE (ps.map some))) (eA : List AV), hY ps eA = some x ∧ wg Cz.free w lc i eA vs ∧ xt (aE (ps.map some)) x
 | [], [], _, i, vs, ds, p, _, hA => by
   obtain ⟨rfl, _, _⟩ := trodAll_nil hA; exact ⟨(), [], rfl, rfl, AG _⟩
 | [], _ :: _, hb, _, _, _, _, _, _ => by simp [Fh] at hb
 | t :: ts, [], hb, _, _, _, _, _, _ => by simp [Fh] at hb
 | t :: ts, .io _ _ :: _, hb, _, _, _, _, _, _ => by simp [Fh] at hb
 | t :: ts, .box _ _ :: _, hb, _, _, _, _, _, _ => by simp [Fh] at hb
 | t :: ts, .bQ _ :: _, hb, _, _, _, _, _, _ => by simp [Fh] at hb
 | t :: ts, .val agg os :: ps, hb, i, vs, ds, p, qO, hA => by
   obtain ⟨v, Tz, d, YU, p', q', rfl, rfl, rfl, h1, h2⟩ := trodAll_cons hA; unfold Fh at hb; rw [Bool.and_eq_true, Bool.and_eq_true, Bool.and_eq_true, Bool.and_eq_true] at hb; obtain ⟨b1, b2, _, _, b5⟩ := hb; obtain ⟨y, eA, g1, g2, g3⟩ := Cc (lc := lc) ts ps b5 (i + 1) Tz YU q' (fun j t v ht hv => qO (j + 1) t v (by simpa using ht) (by simpa using hv)) h2; obtain ⟨b0, gJ⟩ := qO 0 t v rfl rfl
   cases hr : AI P 30 t with
   | none => rw [hr] at b1; cases b1
   | some r =>
     rw [hr] at b1; have rQ := AJ _ _ b1; subst rQ; obtain ⟨fuel, hd⟩ := h1; obtain ⟨x, HG, DV⟩ := CY 30 hr hd; obtain ⟨z, k1, k2, k3⟩ := EG (f := .cI i) r (aE (ps.map some)) 0 v.cells.toList x y HG DV
     cases agg with
     | false =>
       have hs : ∀ fs, P.underlying t ≠ some (.struct fs) := by
         intro fs e; rw [e] at b2
         cases b2
       rw [one_cell hr hs gJ] at k1; refine ⟨z, .val false (dG (nq r) (aE (ps.map some)) z).1 :: eA, ?_, ⟨v, Tz, rfl, k1, g2⟩, k3 g3⟩; show (match hY ps eA with | some y => G4 (.val false (nq r)) (aE (ps.map some)) (.val false _) y | none => none) = _; rw [g1]; exact k2
     | true =>
       obtain ⟨fs, hu⟩ : ∃ fs, P.underlying t = some (.struct fs) := by
         cases hu : P.underlying t with
         | none => rw [hu] at b2; cases b2
         | some d =>
           rw [hu] at b2
           cases d <;> first | exact ⟨_, rfl⟩ | cases b2
       obtain ⟨cs, rfl, _⟩ : ∃ cs, v = .agg cs ∧ True := by
         unfold Value.okWide at gJ; rw [hu] at gJ; obtain ⟨cs, e, _⟩ := gJ; exact ⟨cs, e, trivial⟩
       refine ⟨z, .val true (dG (nq r) (aE (ps.map some)) z).1 :: eA, ?_, ⟨.agg cs, Tz, rfl, ⟨cs, rfl, k1⟩, g2⟩, k3 g3⟩; show (match hY ps eA with | some y => G4 (.val true (nq r)) (aE (ps.map some)) (.val true _) y | none => none) = _; rw [g1]; exact k2
theorem Cd {H : Type} {enc : TypeId × Value → H} {P : Program} (hl : laidOutB P = true) {W W' : World} (hb : Below W.heap.size W W') : (ts : List TypeId) → (ps : List AP) → Fh P ts ps = true → (vs : List Value) → (ds : List (DataW H)) → (p : List MemPlace) → (∀ x ∈ p, x.block < W.heap.size) →
   DataW.TrodAll enc P W 0 (fun _ => true) true ts vs ds p → DataW.TrodAll enc P W' 0 (fun b => decide (b < W.heap.size)) true ts vs ds p
 | [], [], _, vs, ds, p, _, hA => by
   obtain ⟨rfl, rfl, rfl⟩ := trodAll_nil hA; exact trodAll_mk0
 | [], _ :: _, hb, _, _, _, _, _ => by simp [Fh] at hb
 | t :: ts, [], hb, _, _, _, _, _ => by simp [Fh] at hb
 | t :: ts, .io _ _ :: _, hb, _, _, _, _, _ => by simp [Fh] at hb
 | t :: ts, .box _ _ :: _, hb, _, _, _, _, _ => by simp [Fh] at hb
 | t :: ts, .bQ _ :: _, hb, _, _, _, _, _ => by simp [Fh] at hb
 | t :: ts, .val agg os :: ps, hp, vs, ds, p, dC, hA => by
   obtain ⟨v, Tz, d, YU, p', q', rfl, rfl, rfl, h1, h2⟩ := trodAll_cons hA; unfold Fh at hp; rw [Bool.and_eq_true, Bool.and_eq_true, Bool.and_eq_true, Bool.and_eq_true] at hp; obtain ⟨_, _, b3, b4, b5⟩ := hp; exact trodAll_cons_mk (Below.trod hl b3 (Nat.le_of_ble_eq_true b4) h1 hb (fun x hx => dC x (List.mem_append_left _ hx))) (Cd hl hb ts ps b5 Tz YU q' (fun x hx => dC x (List.mem_append_right _ hx)) h2)
theorem Ic {H : Type} {enc : TypeId × Value → H} {P : Program} (hl : laidOutB P = true) {f : FuncId} {ps : List AP} {s : Nat} {t : ar (aE (ps.map some)) → Option (ar (dn [{ src := .tmp s, agg := false, ps := [.bool] }] (cq ps)))}
   (hk : uX P f (sI ps [{ src := .tmp s, agg := false, ps := [.bool] }] t)) {ts : List TypeId} (Mb : Fh P ts ps = true) (YV : ∀ x, xt (aE (ps.map some)) x → ∃ y, t x = some y ∧ y.1 = true)
   {W : World} {base : Nat} {args : Array Value} {ds : List (DataW H)} {p : List MemPlace} (qO : ∀ (j : Nat) t v, ts[j]? = some t → args[j]? = some v → Value.okWide P W .any base t v)
   (hA : DataW.TrodAll enc P W 0 (fun _ => true) true ts args.toList ds p) (dC : ∀ x ∈ p, x.block < W.heap.size) :
   Calls P f args W fun e W' => e = .returned (.bool true) ∧ Below W.heap.size W W' ∧ DataW.TrodAll enc P W' 0 (fun b => decide (b < W.heap.size)) true ts args.toList ds p := by
 obtain ⟨x, eA, h1, h2, h3⟩ := Cc (lc := fun _ _ => .nil) ts ps Mb 0 args.toList ds p (fun j t v ht hv => ⟨base, qO j t v ht (by rwa [Array.getElem?_toList] at hv)⟩) hA; obtain ⟨y, hy, YS⟩ := YV x h3
 let μ : Mu := { m := fun _ => False, ok := fun _ => True, an := [] }
 have hH : Handed Cz.free W μ := {
   m := fun b => ⟨fun h => h.elim, fun ⟨l, h, _⟩ => by cases h⟩
   ok := fun b => ⟨fun _ => rfl, fun _ => trivial⟩
   lt := fun b l h => by cases h
   lb := fun b l h => by cases h }
 have hs : sI ps [{ src := .tmp s, agg := false, ps := [.bool] }] t eA = some { r := dn [{ src := .tmp s, agg := false, ps := [.bool] }] (cq ps), o := t x, res := fun y => { outs := (iP [{ src := .tmp s, agg := false, ps := [.bool] }] (cq ps) y).1, exts := oN ps (iP [{ src := .tmp s, agg := false, ps := [.bool] }] (cq ps) y).2 } } := by
   unfold sI; rw [h1]
 refine (hk.ok Cz.free W μ (fun _ _ => .nil) eA args _ y hH h2 hs hy).mono fun e W' ⟨v, he, c', hb, hV, _⟩ => ?_
 have TA : Below W.heap.size W W' := ⟨hb.kept.1, hb.kept.2.1, hb.kept.2.2.1, hb.kept.2.2.2, fun k hk => hb.old k hk (fun h => h.elim)⟩; have hv : v = .bool true := by
   have hV : uJ c' W' [.one (.bool y.1)] v := hV; rcases hV with ⟨r, e1, g⟩ | ⟨g, _⟩
   · simp only [List.cons.injEq, and_true] at e1; subst e1; obtain ⟨v', l, e2, g2, _⟩ := g; simp only [List.cons.injEq] at e2; obtain ⟨e2, _⟩ := e2; obtain ⟨l', g3, _⟩ := g2; simp only [List.cons.injEq] at g3; rw [e2, g3.1, YS]
   · simp at g
 exact ⟨by rw [he, hv], TA, Cd hl TA ts ps Mb args.toList ds p dC hA⟩
theorem ej {a : Int} (h1 : -9223372036854775808 ≤ a) (h2 : a < 9223372036854775808) : IntKind.i64.wrap a = a := by
 rw [IntKind.wrap_i64]; omega
theorem wf_i64 {n : Int} (h : (Lit.int .i64 n).wf = true) : -9223372036854775808 ≤ n ∧ n < 9223372036854775808 := by
 simp only [Lit.wf, Bool.and_eq_true, decide_eq_true_eq] at h; have h1 : IntKind.i64.min = -9223372036854775808 := rfl; have h2 : IntKind.i64.max = 9223372036854775807 := rfl; omega
theorem pG {X E : Type} {round : X → Option (Sum X E)} {n : Nat} (st : Nat → X) (g : Nat → Option E) (CZ : ∃ e, round (st n) = some (.inr e) ∧ g n = some e)
   (tZ : ∀ k, k < n → (∃ e, round (st k) = some (.inr e) ∧ g k = some e) ∨ (round (st k) = some (.inl (st (k + 1))) ∧ g k = g (k + 1))) : ∀ k, k ≤ n → aD round (st k) = g k := by
 have key : ∀ d k, k + d = n → aD round (st k) = g k := by
   intro d
   induction d with
   | zero =>
     intro k hk; have : k = n := by omega
     subst this; obtain ⟨e, h1, h2⟩ := CZ; rw [je, h1, h2]
   | succ d ih =>
     intro k hk; rcases tZ k (by omega) with ⟨e, h1, h2⟩ | ⟨h1, h2⟩
     · rw [je, h1, h2]
     · rw [je, h1, h2]; exact ih (k + 1) (by omega)
 intro k hk; exact key (n - k) k (by omega)
theorem bK {X E : Type} {round : X → Option (Sum X E)} (n : Nat) (st : Nat → X) {e : E} (CZ : round (st n) = some (.inr e))
   (tZ : ∀ k, k < n → round (st k) = some (.inl (st (k + 1)))) : aD round (st 0) = some e :=
 pG st (fun _ => some e) ⟨e, CZ, rfl⟩ (fun k hk => .inr ⟨tZ k hk, rfl⟩) 0 (Nat.zero_le _)
theorem eH {X E : Type} {round : X → Option (Sum X E)} (n : Nat) (I : Nat → X → Prop) (Q : E → Prop) (CZ : ∀ x, I n x → ∃ e, round x = some (.inr e) ∧ Q e)
   (tZ : ∀ k x, k < n → I k x → (∃ e, round x = some (.inr e) ∧ Q e) ∨ (∃ y, round x = some (.inl y) ∧ I (k + 1) y)) {x : X} (h : I 0 x) : ∃ e, aD round x = some e ∧ Q e := by
 have key : ∀ d k x, k + d = n → I k x → ∃ e, aD round x = some e ∧ Q e := by
   intro d
   induction d with
   | zero =>
     intro k x hk hI; have : k = n := by omega
     subst this; obtain ⟨e, h1, h2⟩ := CZ x hI; exact ⟨e, by rw [je, h1], h2⟩
   | succ d ih =>
     intro k x hk hI; rcases tZ k x (by omega) hI with ⟨e, h1, h2⟩ | ⟨y, h1, h2⟩
     · exact ⟨e, by rw [je, h1], h2⟩
     · obtain ⟨e, h3, h4⟩ := ih (k + 1) y (by omega) h2; exact ⟨e, by rw [je, h1]; exact h3, h4⟩
 exact key n 0 x (by omega) h
theorem iD {A B C : Type} {a : A} {f : A → Option C} {g : B → Option C} : cM (some (.inl a)) f g = f a := rfl
theorem KI {A B C : Type} {b : B} {f : A → Option C} {g : B → Option C} : cM (some (.inr b)) f g = g b := rfl
theorem ai {p : Prop} [Decidable p] (h : p) : decide p = true := decide_eq_true h
theorem aj {p : Prop} [Decidable p] (h : ¬ p) : decide p = false := decide_eq_false h
theorem az (k : Nat) : Int.toNat ((k : Nat) : Int) = k := rfl
theorem fJ {a b : Nat} (h : a < b) : Nat.blt a b = true := Nat.ble_eq_true_of_le h
theorem bh {a b : Nat} (h : a ≤ b) : Nat.ble a b = true := Nat.ble_eq_true_of_le h
theorem aq (k : Nat) : decide ((0 : Int) ≤ ((k : Nat) : Int)) = true := ai (by omega)
theorem aw {k n : Nat} (h : k < n) : decide (((k : Nat) : Int) < ((n : Nat) : Int)) = true := ai (by omega)
theorem ax (n : Nat) : decide (((n : Nat) : Int) < ((n : Nat) : Int)) = false := aj (by omega)
theorem aA {k : Nat} (h : k < 4611686018427387904) : IntKind.i64.wrap (((k : Nat) : Int) + (1 : Int)) = (((k + 1 : Nat)) : Int) := by
 rw [ej] <;> omega
theorem AK (bs : ByteArray) : ∀ (d i : Nat) (r : List UInt8), bs.size - i = d → ByteArray.toList.loop bs i r = r.reverse ++ bs.data.toList.drop i
 | 0, i, r, h => by
   unfold ByteArray.toList.loop; rw [if_neg (by omega)]; have : bs.data.toList.drop i = [] := List.drop_of_length_le (by
     have : bs.data.toList.length = bs.size := Array.length_toList; omega)
   rw [this, List.append_nil]
 | d + 1, i, r, h => by
   unfold ByteArray.toList.loop; have dC : i < bs.size := by omega
   rw [if_pos dC, AK bs d (i + 1) _ (by omega)]; have YW : i < bs.data.toList.length := by
     have : bs.data.toList.length = bs.size := Array.length_toList; omega
   rw [List.reverse_cons, List.append_assoc, List.drop_eq_getElem_cons YW]
   congr 2
   simp [ByteArray.get!, dC]
theorem AL (bs : ByteArray) : bs.toList = bs.data.toList := by
 unfold ByteArray.toList; rw [AK bs _ 0 [] rfl]; simp
theorem Ie {a b : ByteArray} : pC a b = true ↔ a = b := by
 unfold pC; rw [beq_iff_eq]
 constructor
 · intro h; rw [AL, AL] at h; obtain ⟨⟨x⟩⟩ := a; obtain ⟨⟨y⟩⟩ := b; exact congrArg (fun l => ByteArray.mk ⟨l⟩) h
 · intro h; rw [h]
theorem dh (a : ByteArray) : pC a a = true := Ie.2 rfl
theorem uZ {α : Type} (a : List α) (z : α) {k : Nat} (hk : k < a.length) : List.set (a.take k ++ List.replicate (a.length - k) z) k a[k] = a.take (k + 1) ++ List.replicate (a.length - (k + 1)) z := by
 have h1 : (a.take k).length = k := by simp; omega
 have h2 : a.length - k = (a.length - (k + 1)) + 1 := by omega
 rw [List.set_append, if_neg (by omega), h1, Nat.sub_self, h2, List.replicate_succ, List.set_cons_zero, List.take_succ_eq_append_getElem hk, List.append_assoc]; rfl
def wl {α : Type} (f : α → Nat) (xs : List α) : Nat := xs.foldr (fun x n => f x + n) 0
theorem u0 {α : Type} (f : α → Nat) : wl f [] = 0 := rfl
theorem nr {α : Type} (f : α → Nat) (x : α) (xs : List α) : wl f (x :: xs) = f x + wl f xs := rfl
theorem yc {α : Type} (f : α → Nat) (xs ys : List α) : wl f (xs ++ ys) = wl f xs + wl f ys := by
 induction xs with
 | nil => simp [wl]
 | cons x xs ih =>
   show f x + wl f (xs ++ ys) = f x + wl f xs + wl f ys; rw [ih]; omega
theorem tv {α : Type} (f : α → Nat) (xs : List α) {k : Nat} (hk : k < xs.length) : wl f (xs.take (k + 1)) = wl f (xs.take k) + f xs[k] := by
 rw [List.take_succ_eq_append_getElem hk, yc]; rfl
theorem pN {α : Type} (f : α → Nat) (xs : List α) : ∀ x ∈ xs, f x ≤ wl f xs := by
 induction xs with
 | nil => intro x h; cases h
 | cons y xs ih =>
   intro x h; show f x ≤ f y + wl f xs; rcases List.mem_cons.1 h with rfl | h
   · omega
   · have := ih x h; omega
theorem qf {α : Type} (f : α → Nat) (h : ∀ x, f x = 0) (xs : List α) : wl f xs = 0 := by
 induction xs with
 | nil => rfl
 | cons y xs ih => show f y + wl f xs = 0; rw [h, ih]
theorem pO {r : RT} {xs : List (ar r)} (h : xr (.sl r) xs) : xs.length ≤ 9223372036854775807 := (My.1 h).1
theorem ua {r : RT} {xs : List (ar r)} (h : xr (.sl r) xs) : ∀ x ∈ xs, xt r x := (My.1 h).2
theorem FY {s : ByteArray} (h : xr .str s) : ByteArray.size s ≤ 9223372036854775807 := Nz.1 h
theorem ev {n : Int} (h : xr (.int .i64) n) : -9223372036854775808 ≤ n ∧ n < 9223372036854775808 := wf_i64 (Ny.1 h)
def Left (o : Option (Int × Unit)) (wt : Nat) (left : Int) : Prop := ∃ m, o = some (m, ()) ∧ -1 ≤ m ∧ (0 ≤ m → (wt : Int) + m ≤ left)
theorem sM {X Y E F : Type} {r1 : X → Option (Sum X E)} {r2 : Y → Option (Sum Y F)} (n : Nat) (R : Nat → X → Y → Prop) (Q : E → F → Prop)
   (tZ : ∀ k x y, k ≤ n → R k x y → (∃ e f, r1 x = some (.inr e) ∧ r2 y = some (.inr f) ∧ Q e f) ∨ (k < n ∧ ∃ x' y', r1 x = some (.inl x') ∧ r2 y = some (.inl y') ∧ R (k + 1) x' y')) {x : X} {y : Y} (h : R 0 x y) :
   ∃ e f, aD r1 x = some e ∧ aD r2 y = some f ∧ Q e f := by
 have key : ∀ d k x y, k + d = n → R k x y → ∃ e f, aD r1 x = some e ∧ aD r2 y = some f ∧ Q e f := by
   intro d
   induction d with
   | zero =>
     intro k x y hk hR; rcases tZ k x y (by omega) hR with ⟨e, f, h1, h2, h3⟩ | ⟨dC, _⟩
     · exact ⟨e, f, by rw [je, h1], by rw [je, h2], h3⟩
     · omega
   | succ d ih =>
     intro k x y hk hR; rcases tZ k x y (by omega) hR with ⟨e, f, h1, h2, h3⟩ | ⟨_, x', y', h1, h2, h3⟩
     · exact ⟨e, f, by rw [je, h1], by rw [je, h2], h3⟩
     · obtain ⟨e, f, g1, g2, g3⟩ := ih (k + 1) x' y' (by omega) h3; exact ⟨e, f, by rw [je, h1]; exact g1, by rw [je, h2]; exact g2, g3⟩
 exact key n 0 x y (by omega) h
end Go.TM
namespace Go.TM
open Go Go.RowKit
def qB (P : Program) : Nat → RT → List Field → Bool
 | _, .nil, [] => true
 | off, .cons t r, f :: fs => Nat.beq f.offset off && ((f.name != "_") && (P.plainKey f.type && (ED P f.type t && qB P (off + 1) r fs)))
 | _, _, _ => false
def yd (P : Program) (t : TypeId) (r : RT) : Bool :=
 match P.underlying t with
 | some (.struct fs) => !P.stoodInHeld t && (!P.eqGuardType P.depth t && qB P 0 r fs.toList)
 | _ => false
def NA (P : Program) (t : Nat) (r : Rec) : Bool := !r.eq || (match r.row with | some q => yd P t q | none => false)
theorem FZ {P : Program} {c : Cz} {st : St} {w w' : World} {t : TypeId} {ty : Ty} {d : Nat} {a b : CV} {x y : Value} {r : Bool} {q : RT} {l : List CV} (hk : ED P t ty = true) (hf : qG (.cons ty q) (a :: l) = true) (h : sZ a b = some r) (hx : jG c st w a x) (hy : jG c st w b y) :
   (Op.equalIn (d + 1) t x y).run P w' = .ok r w' ∧ qG q l = true := by
 cases ty with
 | sl _ => cases a <;> simp [qG] at hf
 | int k =>
   obtain ⟨e, he, h2⟩ := fI hk
   cases a <;> try (simp [qG] at hf; done)
   rename_i k1 n; simp only [qG, Bool.and_eq_true, decide_eq_true_eq] at hf
   cases b <;> try (simp [sZ] at h; done)
   rename_i k2 m; simp only [sZ] at h
   split at h
   · rename_i LV; subst LV
     cases h
     cases e <;> simp at h2
     have hx : x = .int k1 n := hx; have hy : y = .int k1 m := hy; subst hx hy; refine ⟨?_, hf.2⟩; rw [run_equalIn_int w' d t k1 _ n m he]
     congr 1
   · cases h
 | bool =>
   obtain ⟨e, he, h2⟩ := fI hk
   cases a <;> try (simp [qG] at hf; done)
   cases b <;> try (simp [sZ] at h; done)
   rename_i p q'; simp only [sZ, Option.some.injEq] at h; subst h
   cases e <;> simp at h2
   have hx : x = .bool p := hx; have hy : y = .bool q' := hy; subst hx hy; exact ⟨run_equalIn_bool' w' d t p q' he, hf⟩
 | str =>
   obtain ⟨e, he, h2⟩ := fI hk
   cases a <;> try (simp [qG] at hf; done)
   cases b <;> try (simp [sZ] at h; done)
   rename_i p q'; simp only [sZ, Option.some.injEq] at h; subst h
   cases e <;> simp at h2
   have hx : x = .string p := hx; have hy : y = .string q' := hy; subst hx hy; exact ⟨run_equalIn_string w' d t p q' he, hf⟩
theorem xu {P : Program} {c : Cz} {st : St} {w w' : World} {d : Nat} {us vs : Array Value} : (fs : List Field) → (off : Nat) → (q : RT) → (l m : List CV) → {b : Bool} → qB P off q fs = true → qG q l = true → nf l m = some b →
   fo c st w l (us.toList.drop off) → fo c st w m (vs.toList.drop off) → (Op.eqFields (d + 1) us vs fs).run P w' = .ok b w'
 | [], off, q, l, m, b, hf, rR, hc, hl, hm => by
   cases q with
   | cons t r => cases t <;> simp [qB] at hf
   | nil =>
     cases l with
     | cons _ _ => simp [qG] at rR
     | nil => cases m with
       | cons _ _ => simp [nf] at hc
       | nil =>
         simp only [nf, Option.some.injEq] at hc; subst hc; simp [Op.eqFields]
 | f :: fs, off, q, l, m, b, hf, rR, hc, hl, hm => by
   cases q with
   | nil => simp [qB] at hf
   | cons t r =>
     unfold qB at hf; rw [Bool.and_eq_true, Bool.and_eq_true, Bool.and_eq_true, Bool.and_eq_true] at hf; obtain ⟨h1, h2, h3, h4, h5⟩ := hf; have h1 := Nat.eq_of_beq_eq_true h1
     cases l with
     | nil => cases t <;> simp [qG] at rR
     | cons x l => cases m with
       | nil => simp [nf] at hc
       | cons y m =>
         simp only [nf] at hc
         cases he : sZ x y with
         | none => simp [he] at hc
         | some b1 =>
           cases YX : nf l m with
           | none => simp [he, YX] at hc
           | some b2 =>
             simp only [he, YX, Option.some.injEq] at hc; subst hc; have Ff : off < us.size := by
               have := hl.1; simp at this; omega
             have wG : off < vs.size := by
               have := hm.1; simp at this; omega
             have hdu : us.toList.drop off = us[off] :: us.toList.drop (off + 1) := by
               have : off < us.toList.length := by simpa using Ff
               rw [List.drop_eq_getElem_cons this]; simp
             have SR : vs.toList.drop off = vs[off] :: vs.toList.drop (off + 1) := by
               have : off < vs.toList.length := by simpa using wG
               rw [List.drop_eq_getElem_cons this]; simp
             rw [hdu] at hl; rw [SR] at hm; have rx := hl.2 0 x us[off] rfl rfl; have ry := hm.2 0 y vs[off] rfl rfl; obtain ⟨k1, k2⟩ := FZ (w' := w') (d := d) h4 rR he rx ry; have rl : fo c st w l (us.toList.drop (off + 1)) := ⟨by have := hl.1; simpa using this, fun i a v ha hv => hl.2 (i + 1) a v (by simpa using ha) (by simpa using hv)⟩; have rm : fo c st w m (vs.toList.drop (off + 1)) := ⟨by have := hm.1; simpa using this, fun i a v ha hv => hm.2 (i + 1) a v (by simpa using ha) (by simpa using hv)⟩; have ih := xu (w' := w') (d := d) fs (off + 1) r l m h5 k2 YX rl rm; unfold Op.eqFields; rw [if_pos (by simpa using h2)]; have p1 : (part f.type us f.offset).run P w' = .ok us[off] w' := run_part_plain w' h3 (by rw [h1]; exact Array.getElem?_eq_getElem Ff); have p2 : (part f.type vs f.offset).run P w' = .ok vs[off] w' := run_part_plain w' h3 (by rw [h1]; exact Array.getElem?_eq_getElem wG); simp only [Sem.run_bind, p1, p2, k1, Result.andThen_ok]
             cases b1
             · simp
             · simp [ih]
theorem F0 {P : Program} {tr : Tr} (h : tr.all (NA P) = true) : wc P (og tr) := by
 intro t ht c st w l m us vs b op ox oy rR hc hl hm w'; have ht : (match tr.find t with | some r => r.eq | none => false) = true := ht
 cases hf : tr.find t with
 | none => rw [hf] at ht; cases ht
 | some r =>
   rw [hf] at ht; have ht : r.eq = true := ht; have h1 := Tr.xo tr h hf; unfold NA at h1; rw [ht, Bool.not_true, Bool.false_or] at h1; unfold la.fits at rR; have fF : (og tr).row t = r.row := by show (match tr.find t with | some r => r.row | none => none) = _; rw [hf]
   rw [fF] at rR
   cases hq : r.row with
   | none => rw [hq] at h1; cases h1
   | some q =>
     rw [hq] at h1 rR; have h1 : yd P t q = true := h1; have rR : qG q l = true := rR; unfold yd at h1
     split at h1
     · rename_i fs hu; rw [Bool.and_eq_true, Bool.and_eq_true, Bool.not_eq_true', Bool.not_eq_true'] at h1; have hfo : P.fieldsOf t = fs := by unfold Program.fieldsOf; rw [hu]
       refine ⟨run_eqGuard_agg w' op t ox oy us vs h1.2.1, ?_⟩; show (Op.equalIn (9999 + 1) t (.agg us) (.agg vs)).run P w' = .ok b w'; rw [run_equalIn_struct w' 9999 t us vs (by rw [hfo]; exact hu) h1.1, hfo]; exact xu (d := 9998) fs.toList 0 q l m h1.2.2 rR hc (by simpa using hl) (by simpa using hm)
     · cases h1
end Go.TM
namespace Go.TM
open Go Go.RowKit
def EH (n : Nat) (ps : List AP) (x : ar (aE (ps.map some))) : St := bj (start n ps x) (some 0) (.one .ea)
def Hd (n : Nat) (r : RT) (xs : List (ar r)) (ps : List AP) (x : ar (aE (ps.map some))) : St := bj (start n ps x) (some 0) (.one (.nn r xs))
theorem EI {P : Program} {tr : Tr} (hT : tr.all (xp P) = true) (hE : wc P (og tr)) (hm : P.follows .mixedOrders = true) {S : ld} (hS : oL P S) {D : mL} {f : FuncId} {fn : Func} {code : Code} {n : Nat} {r : RT} {qs : List AP} {rs : List RP}
   {L : p9 (ar (dn rs (cq (.val false [.shr r] :: qs))))} {t : ar (aE ((AP.val false [.shr r] :: qs).map some)) → Option (ar (dn rs (cq (.val false [.shr r] :: qs))))}
   (hf : P.funcs[f]? = some fn) (hb : fn.body = some code) (rV : RI (og tr) D fn code n (.val false [.shr r] :: qs) rs = true) (KH : (fn.name == "runtime.NumGoroutine") = false)
   (hL : ∀ (w0 : World) (mu : Mu) (y : ar (dn rs (cq (.val false [.shr r] :: qs)))), np (.val false [.shr r] :: qs) mu → ∀ p ∈ dP code, oJ P w0 mu n L y p.1 p.2)
   (KJ : ∀ z, fU (og tr) S D L code (EH n (.val false [.shr r] :: qs) (([] : List (ar r)), z)) (FR rs (.val false [.shr r] :: qs)) = t (([] : List (ar r)), z))
   (hnn : ∀ x, fU (og tr) S D L code (Hd n r x.1 (.val false [.shr r] :: qs) x) (FR rs (.val false [.shr r] :: qs)) = t x) : uX P f (sI (.val false [.shr r] :: qs) rs t) := by
 unfold RI at rV; rw [Bool.and_eq_true, Bool.and_eq_true, Bool.and_eq_true, Bool.and_eq_true] at rV; obtain ⟨h1, h2, h3, h4, h5⟩ := rV; refine ⟨Ew (rY hT) hE hS hf hb (Nat.eq_of_beq_eq_true h1) (Nat.le_of_ble_eq_true h2) h3 (fun tm => zD tm _ _ h4) (fun w0 mu y hs => tu code (hL w0 mu y hs))
   (fun w0 mu => x8 (rY hT) hE hm (xh (rY hT) hE hS w0 mu n)) (uW code h5) (fun w0 mu c a w x hR hn => ?_), fn, hf, KH, by rw [hb]; rfl⟩
 have Ol : 0 < n := by
   have := Nat.le_of_ble_eq_true h2; simp at this; omega
 have sF := hR.fp 0; have hg : cz (start n (.val false [.shr r] :: qs) x) 0 = .one (.shr r x.1) := rfl; rw [hg] at sF; have zR : cr w c.ok (.sl r) (a.eval (.tmp 0)) x.1 := sF; have h0 : 0 < a.tmps.size := by omega
 by_cases hv : a.eval (.tmp 0) = .slice none 0 0
 · refine ⟨c, EH n (.val false [.shr r] :: qs) x, ?_, ?_⟩
   · have := hR.bj (d := some 0) (v := .one .ea) (u := a.eval (.tmp 0)) hv (fun k e => by cases e; exact h0)
     rwa [Ai a 0 _ h0 rfl] at this
   · have hx : x.1 = ([] : List (ar r)) := by
       rcases (oc _ _ _ _ _).1 zR with ⟨_, h⟩ | ⟨_, _, h, _⟩
       · exact h
       · rw [hv] at h; cases h
     obtain ⟨x1, z⟩ := x; simp only at hx; subst hx; exact KJ z
 · refine ⟨c, Hd n r x.1 (.val false [.shr r] :: qs) x, ?_, hnn x⟩; have := hR.bj (d := some 0) (v := .one (.nn r x.1)) (u := a.eval (.tmp 0)) ⟨zR, hv⟩ (fun k e => by cases e; exact h0)
   rwa [Ai a 0 _ h0 rfl] at this
end Go.TM
namespace Go.TM
open Go Go.RowKit
section
variable {R : Type} (T : la) (S : ld) (D : mL) (L : p9 R)
end
def TB {R : Type} (P : Program) (w0 : World) (mu : Mu) (n : Nat) (k : Ex → St → Option R) (r : R) (b : Code) (hp : List (Option AP)) (g : ar (aE hp) → Option R) : Prop :=
 ∀ x, g x = some r → ∀ {Q : Exit → Act → World → Prop}, J4 w0 mu n r k Q → ∀ {c : Cz} {a : Act} {w : World}, Rel w0 mu c (qQ hp x) a w → a.tmps.size = n → b.wp P Q a w
structure Seg (tr : Tr) (S : ld) (D : mL) (n : Nat) (ps : List AP) {R : Type} (L : p9 R) (k : Ex → St → Option R) (P : Program) (b : Code) (hp : List (Option AP)) (g : ar (aE hp) → Option R) : Prop where
 ok : ∀ (w0 : World) (mu : Mu) (r : R), np ps mu → ja n b = true → fH (fun id ops => AE ops (D id) = true) b → fq (oJ P w0 mu n L r) b → TB P w0 mu n k r b hp g
end Go.TM
namespace Go.TM
open Go Go.RowKit
noncomputable section
structure TK (P : Program) where
 tr : Tr
 hT : tr.all (xp P) = true
 hE : wc P (og tr)
 hm : P.follows .mixedOrders = true
structure KF (P : Program) where
 f : FuncId
 m : Pm × Pm × Pm
 yy : vW
 ok : uX P f yy
def KF.sl {P : Program} (k : KF P) : Nat × (Pm × Pm × Pm × vW) := (k.f, (k.m.1, k.m.2.1, k.m.2.2, k.yy))
def OH {P : Program} : List (KF P) → OF
 | [] => []
 | k :: l => k.sl :: OH l
theorem He {P : Program} : (l : List (KF P)) → oL P (wo (OH l))
 | [] => KG
 | k :: l => H8 k.ok (He l)
def kw {P : Program} {f : FuncId} {s : vW} (h : uX P f s) : KF P := ⟨f, (.shr, .shr, .shr), s, h⟩
def kv {P : Program} (m : Pm × Pm × Pm) {f : FuncId} {s : vW} (h : uX P f s) : KF P := ⟨f, m, s, h⟩
structure LD where
 i : Nat
 b : Code
 hp : List (Option AP)
 e : List (Option AP)
 q : List (Option AP)
 r : ar (aE hp) → Option (Sum (ar (aE hp)) (Sum (ar (aE e)) (ar (aE q))))
def LD.Ok (l : LD) (P : Program) (n : Nat) (ps : List AP) : Prop :=
 ∀ {R : Type} (L : p9 R) (y : R) (w0 : World) (mu : Mu), (∀ st k, L l.i l.b st k = x6 l.hp l.e l.q l.r st k) → np ps mu → oJ P w0 mu n L y l.i l.b
structure OI (P : Program) (n : Nat) (ps : List AP) where
 d : LD
 ok : d.Ok P n ps
def u6 {P : Program} {n : Nat} {ps : List AP} {R : Type} : List (OI P n ps) → p9 R
 | [] => RH
 | l :: ls => fun id b st k => bif Nat.beq id l.d.i then x6 l.d.hp l.d.e l.d.q l.d.r st k else u6 ls id b st k
def Ce {P : Program} {n : Nat} {ps : List AP} : List (OI P n ps) → List (Nat × Code)
 | [] => []
 | l :: ls => (l.d.i, l.d.b) :: Ce ls
def F1 {P : Program} {n : Nat} {ps : List AP} : List (OI P n ps) → Bool
 | [] => true
 | l :: ls => ls.all (fun m => !Nat.beq m.d.i l.d.i) && F1 ls
theorem KK {P : Program} {n : Nat} {ps : List AP} {R : Type} : (ls : List (OI P n ps)) → F1 ls = true → ∀ l ∈ ls, ∀ st (k : Ex → St → Option R), u6 ls l.d.i l.d.b st k = x6 l.d.hp l.d.e l.d.q l.d.r st k
 | [], _, l, h => by cases h
 | m :: ls, hb, l, h => by
   intro st k; unfold F1 at hb; rw [Bool.and_eq_true] at hb; rcases List.mem_cons.1 h with rfl | h
   · show (bif Nat.beq l.d.i l.d.i then _ else _) = _; rw [Nat.beq_refl]; rfl
   · show (bif Nat.beq l.d.i m.d.i then _ else u6 ls l.d.i l.d.b st k) = _; have := List.all_eq_true.1 hb.1 l h; rw [Bool.not_eq_true'] at this; rw [this]; exact KK ls hb.2 l h st k
theorem Hf {P : Program} {n : Nat} {ps : List AP} : (ls : List (OI P n ps)) → ∀ p ∈ Ce ls, ∃ l ∈ ls, p = (l.d.i, l.d.b)
 | [], p, h => by cases h
 | m :: ls, p, h => by
   rcases List.mem_cons.1 h with rfl | h
   · exact ⟨m, List.mem_cons_self, rfl⟩
   · obtain ⟨l, h1, h2⟩ := Hf ls p h; exact ⟨l, List.mem_cons_of_mem _ h1, h2⟩
theorem F2 {P : Program} {n : Nat} {ps : List AP} {R : Type} {ls : List (OI P n ps)} (hb : F1 ls = true) {c : Code} (hc : dP c = Ce ls) (y : R) (w0 : World) (mu : Mu) (hs : np ps mu) : ∀ p ∈ dP c, oJ P w0 mu n (u6 ls) y p.1 p.2 := by
 rw [hc]; intro p hp; obtain ⟨l, hl, rfl⟩ := Hf ls p hp; exact l.ok (u6 ls) y w0 mu (KK ls hb l hl) hs
structure FC (P : Program) where
 t : TK P
 l : List (KF P)
 D : mL
 fn : Func
 ps : List AP
abbrev FC.code {P : Program} (F : FC P) : Code := KE F.fn
abbrev FC.S {P : Program} (F : FC P) : ld := wo (OH F.l)
abbrev FC.T {P : Program} (F : FC P) : la := og F.t.tr
abbrev FC.KL {P : Program} (F : FC P) : Type := OI P F.fn.ntmps F.ps
abbrev FC.Ok {P : Program} (F : FC P) (l : LD) : Prop := l.Ok P F.fn.ntmps F.ps
abbrev FC.fin {P : Program} (F : FC P) (rs : List RP) : Ex → St → Option (ar (dn rs (cq F.ps))) := FR rs F.ps
def FC.lp {P : Program} (F : FC P) (j : Nat) : Code := CX F.code j
theorem FC.kl {P : Program} (F : FC P) {l : LD} (ls : List F.KL) (h1 : (B9 F.D F.ps l.hp l.e l.q F.fn.ntmps l.b && F1 ls) = true) (h2 : dP l.b = Ce ls)
   (ht : ∀ x, fU F.T F.S F.D (u6 ls) l.b (qQ l.hp x) (x5 l.i l.hp l.e l.q) = l.r x) : F.Ok l := by
 rw [Bool.and_eq_true] at h1; exact fun _ _ w0 mu hL hs => H9 F.t.hT F.t.hE F.t.hm (He F.l) hs h1.1 (fun z => F2 h1.2 h2 z w0 mu hs) ht hL
theorem FC.mm {P : Program} (F : FC P) {l : LD} (h : ∀ x, (B9 F.D F.ps l.hp l.e l.q F.fn.ntmps l.b && (dP l.b).isEmpty, fU F.T F.S F.D RH l.b (qQ l.hp x) (x5 l.i l.hp l.e l.q)) = (true, l.r x)) : F.Ok l := by
 have h1 := congrArg Prod.fst (h (sv _)); have h1 : (B9 F.D F.ps l.hp l.e l.q F.fn.ntmps l.b && (dP l.b).isEmpty) = true := h1; rw [Bool.and_eq_true] at h1; have ht : ∀ x, fU F.T F.S F.D RH l.b (qQ l.hp x) (x5 l.i l.hp l.e l.q) = l.r x := fun x => congrArg Prod.snd (h x)
 have g : F.Ok l := F.kl [] (by rw [h1.1]; rfl) (List.isEmpty_iff.1 h1.2) ht; exact @g
abbrev FC.YY {P : Program} (F : FC P) (rs : List RP) (t : Nw (aE (F.ps.map some)) (Option (ar (dn rs (cq F.ps))))) : vW := sI F.ps rs (xN (aE (F.ps.map some)) t)
abbrev FC.Kn {P : Program} (F : FC P) (rs : List RP) (f : FuncId) (t : Nw (aE (F.ps.map some)) (Option (ar (dn rs (cq F.ps))))) : Prop := uX P f (F.YY rs t)
def FC.OJ {P : Program} (F : FC P) (rs : List RP) : Bool := F.fn.body.isSome && (RI F.T F.D F.fn F.code F.fn.ntmps F.ps rs && !(F.fn.name == "runtime.NumGoroutine"))
theorem FC.KM {P : Program} {F : FC P} {rs : List RP} (h : F.OJ rs = true) : F.fn.body = some F.code ∧ RI F.T F.D F.fn F.code F.fn.ntmps F.ps rs = true ∧ (F.fn.name == "runtime.NumGoroutine") = false := by
 unfold FC.OJ at h; rw [Bool.and_eq_true, Bool.and_eq_true, Bool.not_eq_true'] at h; obtain ⟨h1, h2, h3⟩ := h; refine ⟨?_, h2, h3⟩; obtain ⟨c, hc⟩ := Option.isSome_iff_exists.1 h1; unfold FC.code KE; rw [hc]
theorem FC.kf {P : Program} (F : FC P) {rs : List RP} {f : FuncId} {t : Nw (aE (F.ps.map some)) (Option (ar (dn rs (cq F.ps))))} (ls : List F.KL) (hf : P.funcs[f]? = some F.fn) (h1 : (F.OJ rs && F1 ls) = true) (h2 : dP F.code = Ce ls)
   (ht : ∀ x, fU F.T F.S F.D (u6 ls) F.code (start F.fn.ntmps F.ps x) (F.fin rs) = xN (aE (F.ps.map some)) t x) : F.Kn rs f t := by
 rw [Bool.and_eq_true] at h1; obtain ⟨hb, hc, hn⟩ := F.KM h1.1; exact Mw F.t.hT F.t.hE F.t.hm (He F.l) (D := F.D) (L := u6 ls) hf hb hc hn (fun w0 mu y hs => F2 h1.2 h2 y w0 mu hs) ht
theorem FC.mn {P : Program} (F : FC P) {rs : List RP} {f : FuncId} {t : Nw (aE (F.ps.map some)) (Option (ar (dn rs (cq F.ps))))} (hf : P.funcs[f]? = some F.fn)
   (h : ∀ x, (F.OJ rs && (dP F.code).isEmpty, fU F.T F.S F.D RH F.code (start F.fn.ntmps F.ps x) (F.fin rs)) = (true, xN (aE (F.ps.map some)) t x)) : F.Kn rs f t := by
 have h1 := congrArg Prod.fst (h (sv _)); have h1 : (F.OJ rs && (dP F.code).isEmpty) = true := h1; rw [Bool.and_eq_true] at h1; exact F.kf [] hf (by rw [h1.1]; rfl) (List.isEmpty_iff.1 h1.2) fun x => congrArg Prod.snd (h x)
theorem FC.Xu {P : Program} (F : FC P) {rs : List RP} {f : FuncId} {t : Nw (aE (F.ps.map some)) (Option (ar (dn rs (cq F.ps))))} (hf : P.funcs[f]? = some F.fn) (h1 : (F.OJ rs && (dP F.code).isEmpty) = true)
   (ht : ∀ x, fU F.T F.S F.D RH F.code (start F.fn.ntmps F.ps x) (F.fin rs) = xN (aE (F.ps.map some)) t x) : F.Kn rs f t := by
 rw [Bool.and_eq_true] at h1; exact F.kf [] hf (by rw [h1.1]; rfl) (List.isEmpty_iff.1 h1.2) ht
theorem FC.YZ {P : Program} (F : FC P) {l : LD} (h1 : (B9 F.D F.ps l.hp l.e l.q F.fn.ntmps l.b && (dP l.b).isEmpty) = true)
   (ht : ∀ x, fU F.T F.S F.D RH l.b (qQ l.hp x) (x5 l.i l.hp l.e l.q) = l.r x) : F.Ok l := by
 rw [Bool.and_eq_true] at h1; have g : F.Ok l := F.kl [] (by rw [h1.1]; rfl) (List.isEmpty_iff.1 h1.2) ht; exact @g
theorem FC.Y0 {P : Program} (F : FC P) {rs : List RP} {f : FuncId} {t : Nw (aE (F.ps.map some)) (Option (ar (dn rs (cq F.ps))))} (ls : List F.KL) (hf : P.funcs[f]? = some F.fn) (r : RT) (qs : List AP) (hq : F.ps = .val false [.shr r] :: qs) (h1 : (F.OJ rs && F1 ls) = true) (h2 : dP F.code = Ce ls)
   (h4 : ∀ x, fU F.T F.S F.D (u6 ls) F.code (bj (start F.fn.ntmps F.ps (hq ▸ (([] : List (ar r)), x))) (some 0) (.one .ea)) (F.fin rs) = xN (aE (F.ps.map some)) t (hq ▸ (([] : List (ar r)), x)))
   (h5 : ∀ x, fU F.T F.S F.D (u6 ls) F.code (bj (start F.fn.ntmps F.ps (hq ▸ x)) (some 0) (.one (.nn r x.1))) (F.fin rs) = xN (aE (F.ps.map some)) t (hq ▸ x)) : F.Kn rs f t := by
 rw [Bool.and_eq_true] at h1; obtain ⟨hb, hc, hn⟩ := F.KM h1.1; obtain ⟨tt, l, D, fn, ps⟩ := F; simp only at hq; subst hq; exact EI tt.hT tt.hE tt.hm (He l) (D := D) (L := u6 ls) hf hb hc hn (fun w0 mu y hs => F2 h1.2 h2 y w0 mu hs) h4 h5
def sp : List (Nat × AP) → Nat → List (Option AP)
 | [], k => nn k
 | (g, p) :: l, k => nn g ++ some p :: sp l k
abbrev vl (l : List OP) : AP := .val false l
abbrev va (l : List OP) : AP := .val true l
abbrev Pl.a (i : Nat) (p : Pl) : Pl := .op i .any p
abbrev Pl.t (i : Nat) (p : Pl) : Pl := .op i .take p
abbrev Pl.o (i : Nat) (p : Pl) : Pl := .op i .one p
abbrev Pl.l (i : Nat) (p : Pl) : Pl := .op i .last p
def dr (i : Nat) (p : Pl) (D : mL := fR) : mL := fun id => bif Nat.beq id i then p else D id
end
end Go.TM
