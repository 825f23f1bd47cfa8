/- A machine over trees: an evaluator of the code, and that what it finds is so; part 4. -/
import Derived.Test.YtlgnmloddedbaaaGreatTm3
import Derived.Carry
import Derived.ChangeArms
import Derived.ChangeOld
import Derived.OpenShut
import Derived.Laws.StructEq
import Derived.ChangeKeysEq
set_option linter.unusedSimpArgs false
set_option linter.unusedVariables false
namespace Go.TM
open Go Go.RowKit
def loopsIn : Code → List (Nat × Code)
 | .seq a b => loopsIn a ++ loopsIn b
 | .cond _ a b => loopsIn a ++ loopsIn b
 | .block id (.loop b) => [(id, b)]
 | .block _ a => loopsIn a
 | _ => []
theorem codeLoops_of {ok : Nat → Code → Prop} : (c : Code) → (∀ p ∈ loopsIn c, ok p.1 p.2) → codeLoops ok c := by
 intro c
 induction c with
 | seq a b iha ihb =>
   intro h; unfold loopsIn at h; exact ⟨iha fun p hp => h p (List.mem_append_left _ hp), ihb fun p hp => h p (List.mem_append_right _ hp)⟩
 | cond x a b iha ihb =>
   intro h; unfold loopsIn at h; exact ⟨iha fun p hp => h p (List.mem_append_left _ hp), ihb fun p hp => h p (List.mem_append_right _ hp)⟩
 | block id a ih =>
   intro h
   by_cases hb : ∃ b', a = .loop b'
   · obtain ⟨b', rfl⟩ := hb; exact h (id, b') (by unfold loopsIn; exact List.mem_cons_self)
   · cases a with
     | loop b' => exact absurd ⟨b', rfl⟩ hb
     | _ => unfold loopsIn at h; unfold codeLoops; exact ih h
 | _ => intro _; unfold codeLoops; trivial
def nthLoop (c : Code) (i : Nat) : Code := match nth (loopsIn c) i with | some p => p.2 | none => .skip
def codeDrawB (D : Draws) : Code → Bool
 | .region id ops true => drawOk ops (D id)
 | .seq a b => codeDrawB D a && codeDrawB D b
 | .cond _ a b => codeDrawB D a && codeDrawB D b
 | .block _ (.loop _) => true
 | .block _ a => codeDrawB D a
 | _ => true
theorem codeDraw_of {D : Draws} : (c : Code) → codeDrawB D c = true → codeDraw (fun id ops => drawOk ops (D id) = true) c := by
 intro c
 induction c with
 | region id ops dr =>
   intro h
   cases dr with
   | true => exact h
   | false => unfold codeDraw; trivial
 | seq a b iha ihb =>
   intro h; unfold codeDrawB at h; rw [Bool.and_eq_true] at h; exact ⟨iha h.1, ihb h.2⟩
 | cond x a b iha ihb =>
   intro h; unfold codeDrawB at h; rw [Bool.and_eq_true] at h; exact ⟨iha h.1, ihb h.2⟩
 | block id a ih =>
   intro h
   by_cases hb : ∃ b', a = .loop b'
   · obtain ⟨b', rfl⟩ := hb; unfold codeDraw; trivial
   · cases a with
     | loop b' => exact absurd ⟨b', rfl⟩ hb
     | _ => unfold codeDrawB at h; unfold codeDraw; exact ih h
 | _ => intro _; unfold codeDraw; trivial
def Src.same : Src → Src → Bool
 | .tmp a, .tmp b => Nat.beq a b
 | .cell a, .cell b => Nat.beq a b
 | .ptr a, .ptr b => Nat.beq a b
 | _, _ => false
theorem Src.same_ok : {a b : Src} → a.same b = true → a = b
 | .tmp _, .tmp _, h => congrArg Src.tmp (Nat.eq_of_beq_eq_true h)
 | .cell _, .cell _, h => congrArg Src.cell (Nat.eq_of_beq_eq_true h)
 | .ptr _, .ptr _, h => congrArg Src.ptr (Nat.eq_of_beq_eq_true h)
 | .tmp _, .cell _, h => by cases h
 | .tmp _, .ptr _, h => by cases h
 | .cell _, .tmp _, h => by cases h
 | .cell _, .ptr _, h => by cases h
 | .ptr _, .tmp _, h => by cases h
 | .ptr _, .cell _, h => by cases h
def resB (T : Tab) : List ResultVar → List RP → Bool
 | [], [] => true
 | .tmp t :: vs, r :: rs => (r.src.same (.tmp t) || r.src.same (.ptr t)) && resB T vs rs
 | .cell t ty :: vs, r :: rs => r.src.same (.cell t) && ((match T.cells ty with | some n => Nat.beq n r.ps.length | none => false) && ((T.agg ty == r.agg) && resB T vs rs))
 | _, _ => false
theorem resB_ok {T : Tab} (tm : Array Value) : (vs : List ResultVar) → (rs : List RP) → resB T vs rs = true → ResFit T tm vs rs
 | [], [], _ => trivial
 | [], _ :: _, h => by simp [resB] at h
 | v :: _, [], h => by cases v <;> simp [resB] at h
 | .tmp t :: vs, r :: rs, h => by
   unfold resB at h; rw [Bool.and_eq_true, Bool.or_eq_true] at h; exact ⟨h.1.imp Src.same_ok Src.same_ok, resB_ok tm vs rs h.2⟩
 | .cell t ty :: vs, r :: rs, h => by
   unfold resB at h; rw [Bool.and_eq_true, Bool.and_eq_true, Bool.and_eq_true] at h; obtain ⟨h1, h2, h3, h4⟩ := h; refine ⟨⟨Src.same_ok h1, ?_, by simpa using h3⟩, resB_ok tm vs rs h4⟩
   cases hc : T.cells ty with
   | none => rw [hc] at h2; cases h2
   | some n => rw [hc] at h2; rw [Nat.eq_of_beq_eq_true h2]
abbrev SemL := List (Nat × (Pm × Pm × Pm × Sem1))
def semsOf : SemL → Sems
 | [], _ => none
 | (g, s) :: l, f => bif Nat.beq f g then some s else semsOf l f
structure Known (P : Program) (f : FuncId) (sem : Sem1) : Prop where
 ok : FnOk P f sem
 fn : ∃ fn, P.funcs[f]? = some fn ∧ (fn.name == "runtime.NumGoroutine") = false ∧ fn.body.isNone = false
theorem sems_nil {P : Program} : SemsOk P (semsOf []) := fun f a b c sem h => by cases h
theorem sems_cons {P : Program} {g : Nat} {a b c : Pm} {sem : Sem1} {l : SemL} (hk : Known P g sem) (hl : SemsOk P (semsOf l)) : SemsOk P (semsOf ((g, (a, b, c, sem)) :: l)) := by
 intro f a' b' c' sem' h; unfold semsOf at h
 cases hb : Nat.beq f g with
 | true =>
   rw [hb] at h; injection h with h; injection h with _ h; injection h with _ h; injection h with _ h; subst h; rw [Nat.eq_of_beq_eq_true hb]; exact ⟨hk.ok, hk.fn⟩
 | false => rw [hb] at h; exact hl f a' b' c' sem' h
def fnB (T : Tab) (D : Draws) (fn : Func) (code : Code) (n : Nat) (ps : List AP) (rs : List RP) : Bool :=
 Nat.beq fn.ntmps n && (Nat.ble ps.length n && (codeDst n code && (resB T fn.results.toList rs && codeDrawB D code)))
theorem fn_auto {P : Program} {tr : Tr} (hT : tr.all (recOk P) = true) (hE : EqOk P (tabOf tr)) (hm : P.follows .mixedOrders = true) {S : Sems} (hS : SemsOk P S) {D : Draws} {f : FuncId} {fn : Func} {code : Code} {n : Nat} {ps : List AP} {rs : List RP}
   {L : Loops (denR (resRT rs (extRT ps)))} {t : denR (headRT (ps.map some)) → Option (denR (resRT rs (extRT ps)))}
   (hf : P.funcs[f]? = some fn) (hb : fn.body = some code) (hchk : fnB (tabOf tr) D fn code n ps rs = true) (hname : (fn.name == "runtime.NumGoroutine") = false)
   (hL : ∀ (w0 : World) (mu : Mu) (y : denR (resRT rs (extRT ps))), AnShape ps mu → ∀ p ∈ loopsIn code, LoopAt P w0 mu n L y p.1 p.2)
   (hsem : ∀ x, codeK (tabOf tr) S D L code (start n ps x) (finK rs ps) = t x) : Known P f (semOf ps rs t) := by
 unfold fnB at hchk; rw [Bool.and_eq_true, Bool.and_eq_true, Bool.and_eq_true, Bool.and_eq_true] at hchk; obtain ⟨h1, h2, h3, h4, h5⟩ := hchk; refine ⟨fn_ok (tab_ok hT) hE hS hf hb (Nat.eq_of_beq_eq_true h1) (Nat.le_of_ble_eq_true h2) h3 (fun tm => resB_ok tm _ _ h4) (fun w0 mu y hs => codeLoops_of code (hL w0 mu y hs))
   (fun w0 mu => drawSound (tab_ok hT) hE hm (opSound (tab_ok hT) hE hS w0 mu n)) (codeDraw_of code h5) hsem, fn, hf, hname, by rw [hb]; rfl⟩
def loopB (D : Draws) (ps : List AP) (hp e0 e1 : List (Option AP)) (n : Nat) (b : Code) : Bool :=
 (headFit ps hp && (headFit ps e0 && headFit ps e1)) && (codeDst n b && codeDrawB D b)
theorem loop_auto {R : Type} {P : Program} {tr : Tr} (hT : tr.all (recOk P) = true) (hE : EqOk P (tabOf tr)) (hm : P.follows .mixedOrders = true) {S : Sems} (hS : SemsOk P S) {D : Draws} {n id : Nat} {w0 : World} {mu : Mu} {ps : List AP} {hp e0 e1 : List (Option AP)} {b : Code} {r : R} {L : Loops R}
   {L' : Loops (Sum (denR (headRT hp)) (Sum (denR (headRT e0)) (denR (headRT e1))))} {round : denR (headRT hp) → Option (Sum (denR (headRT hp)) (Sum (denR (headRT e0)) (denR (headRT e1))))}
   (hs : AnShape ps mu) (hchk : loopB D ps hp e0 e1 n b = true)
   (hin : ∀ z, ∀ p ∈ loopsIn b, LoopAt P w0 mu n L' z p.1 p.2) (hround : ∀ x, codeK (tabOf tr) S D L' b (headSt hp x) (roundK id hp e0 e1) = round x) (hL : ∀ st k, L id b st k = loopAt hp e0 e1 round st k) : LoopAt P w0 mu n L r id b := by
 unfold loopB at hchk; rw [Bool.and_eq_true, Bool.and_eq_true (codeDst n b)] at hchk; exact loop_ok (opSound (tab_ok hT) hE hS w0 mu n) (drawSound (tab_ok hT) hE hm (opSound (tab_ok hT) hE hS w0 mu n)) hs hchk.1 hchk.2.1 (codeDraw_of b hchk.2.2) (fun z => codeLoops_of b (hin z)) hround hL
def outK {A B C : Type} (o : Option (Sum A B)) (f : A → Option C) (g : B → Option C) : Option C :=
 o.bind fun z => match z with
   | .inl y => f y
   | .inr y => g y
end Go.TM
namespace Go.TM
open Go Go.RowKit Go.ChangeShapes
def RT.app : RT → RT → RT
 | .nil, s => s
 | .cons t r, s => .cons t (r.app s)
def catR : (r s : RT) → denR r → denR s → denR (r.app s)
 | .nil, _, _, y => y
 | .cons _ r, s, x, y => (x.1, catR r s x.2 y)
mutual
def SzTy : (t : Ty) → den t → Prop
 | .int k, n => (Lit.int k n).wf = true
 | .bool, _ => True
 | .str, s => ByteArray.size s ≤ maxLen
 | .sl r, xs => (asL xs).length ≤ maxLen ∧ ∀ x ∈ asL xs, SzR r x
def SzR : (r : RT) → denR r → Prop
 | .nil, _ => True
 | .cons t r, x => SzTy t x.1 ∧ SzR r x.2
end
theorem szNil (x : denR .nil) : SzR .nil x := SzR.eq_1 x ▸ trivial
theorem szCons {t : Ty} {r : RT} {x : denR (.cons t r)} : SzR (.cons t r) x ↔ SzTy t x.1 ∧ SzR r x.2 := SzR.eq_2 t r x ▸ Iff.rfl
theorem szInt {k : IntKind} {n : Int} : SzTy (.int k) n ↔ (Lit.int k n).wf = true := SzTy.eq_1 k n ▸ Iff.rfl
theorem szBool {b : Bool} : SzTy .bool b := SzTy.eq_2 b ▸ trivial
theorem szStr {s : ByteArray} : SzTy .str s ↔ ByteArray.size s ≤ maxLen := SzTy.eq_3 s ▸ Iff.rfl
theorem szSl {r : RT} {xs : List (denR r)} : SzTy (.sl r) xs ↔ (xs.length ≤ maxLen ∧ ∀ x ∈ xs, SzR r x) := SzTy.eq_4 r xs ▸ Iff.rfl
theorem RT.width_app : (r s : RT) → (r.app s).width = r.width + s.width
 | .nil, s => by simp [RT.app, RT.width]
 | .cons t r, s => by simp [RT.app, RT.width, RT.width_app r s]; omega
theorem RepVs.cat {w : World} {ok : Nat → Prop} : (r s : RT) → (l m : List Value) → (x : denR r) → (y : denR s) → RepVs w ok r l x → RepVs w ok s m y → RepVs w ok (r.app s) (l ++ m) (catR r s x y)
 | .nil, s, l, m, x, y, h, h' => by
   have : l = [] := h; subst this; exact h'
 | .cons t r, s, l, m, x, y, h, h' => by
   obtain ⟨v, l', rfl, h1, h2⟩ := h; exact ⟨v, l' ++ m, rfl, h1, RepVs.cat r s l' m x.2 y h2 h'⟩
theorem SzR.cat : (r s : RT) → (x : denR r) → (y : denR s) → SzR r x → SzR s y → SzR (r.app s) (catR r s x y)
 | .nil, _, _, _, _, h' => h'
 | .cons t r, s, x, y, h, h' => by
   exact szCons.2 ⟨(szCons.1 h).1, SzR.cat r s x.2 y (szCons.1 h).2 h'⟩
def rowsF (P : Program) (row : TypeId → Option RT) : Nat → List Field → Option RT
 | _, [] => some .nil
 | off, f :: fs => match row f.type with
   | some q => (match rowsF P row (off + q.width) fs with
     | some r => bif Nat.beq f.offset off && Nat.beq (P.cellsOf f.type) q.width then some (q.app r) else none
     | none => none)
   | none => none
def rowB (P : Program) : Nat → TypeId → Option RT
 | 0, _ => none
 | n + 1, t => match P.underlying t with
   | some .bool => some (.cons .bool .nil)
   | some (.int k) => some (.cons (.int k) .nil)
   | some .string => some (.cons .str .nil)
   | some (.slice e) => (match rowB P n e with
     | some q => bif Nat.beq (P.cellsOf e) q.width && Nat.blt 0 q.width then some (.cons (.sl q) .nil) else none
     | none => none)
   | some (.struct fs) => (match rowsF P (rowB P n) 0 fs.toList with
     | some r => bif Nat.beq (P.cellsOf t) r.width then some r else none
     | none => none)
   | _ => none
theorem list_of {α : Type} {Pr : Nat → α → Prop} : (n : Nat) → (∀ i, i < n → ∃ x, Pr i x) → ∃ xs : List α, xs.length = n ∧ ∀ (i : Nat) x, xs[i]? = some x → Pr i x
 | 0, _ => ⟨[], rfl, fun i x h => by simp at h⟩
 | n + 1, h => by
   obtain ⟨xs, h1, h2⟩ := list_of n (fun i hi => h i (by omega)); obtain ⟨x, hx⟩ := h n (by omega); refine ⟨xs ++ [x], by simp [h1], fun i y hy => ?_⟩
   by_cases hi : i < n
   · rw [List.getElem?_append_left (by omega)] at hy; exact h2 i y hy
   · rw [List.getElem?_append_right (by omega)] at hy; have hin : i = n := by
       have := (List.getElem?_eq_some_iff.1 hy).1; simp at this; omega
     subst hin; rw [h1, Nat.sub_self] at hy; simp at hy; rw [← hy]; exact hx
theorem cell_spot {w : World} {a : Addr} {v : Value} (h : w.cell? a = some v) : a.spot = none := by
 unfold World.cell? at h
 split at h
 · split at h
   · cases h
   · rename_i hs; simpa using hs
 · cases h
theorem mapM_get {α β : Type} {f : α → Option β} : (l : List α) → {m : List β} → l.mapM f = some m → m.length = l.length ∧ ∀ (i : Nat) a, l[i]? = some a → f a = m[i]?
 | [], m, h => by
   simp at h; subst h; exact ⟨rfl, fun i a ha => by simp at ha⟩
 | a :: l, m, h => by
   rw [List.mapM_cons] at h
   cases ha : f a with
   | none => simp [ha] at h
   | some b =>
     cases hl : l.mapM f with
     | none => simp [ha, hl] at h
     | some m' =>
       simp [ha, hl] at h; subst h; obtain ⟨h1, h2⟩ := mapM_get l hl; refine ⟨by simp [h1], fun i x hx => ?_⟩
       cases i with
       | zero => simp at hx; subst hx; simpa using ha
       | succ i => simpa using h2 i x (by simpa using hx)
theorem cells_range {w : World} {base n : Nat} {a : Addr} {vs : List Value} (h : w.cells? base a n = some vs) : vs.length = n ∧ w.rangeAt a.block a.off vs ∧ (0 < n → a.spot = none) := by
 unfold World.cells? at h
 split at h
 · obtain ⟨h1, h2⟩ := mapM_get _ h; simp at h1; have each : ∀ j v, vs[j]? = some v → w.cell? (a.add j) = some v := by
     intro j v hv; have hj : j < n := by
       have := (List.getElem?_eq_some_iff.1 hv).1; omega
     rw [h2 j j (by simp [hj]), hv]
   refine ⟨h1, fun j v hv => ?_, fun hn => ?_⟩
   · have := each j v hv; have hs := cell_spot this; have e : a.add j = ⟨a.block, a.off + j, none⟩ := by
       unfold Addr.add at hs ⊢
       split
       · rename_i h0; subst h0; rw [if_pos rfl] at hs; obtain ⟨b, o, s⟩ := a; simp at hs; subst hs; rfl
       · rfl
     rw [← e]; exact this
   · have hlt : 0 < vs.length := by omega
     have := each 0 vs[0] (by simp [hlt]); have hs := cell_spot this; simpa [Addr.add] using hs
 · cases h
theorem fields_ok {P : Program} {w : World} {cs : List Value} {row : TypeId → Option RT} : (fs : List Field) → (off : Nat) → (r : RT) → rowsF P row off fs = some r →
   (∀ f ∈ fs, ∀ q, row f.type = some q → ∃ x : denR q, RepVs w (fun _ => True) q ((cs.drop f.offset).take (P.cellsOf f.type)) x ∧ SzR q x) → off + r.width ≤ cs.length →
   ∃ x : denR r, RepVs w (fun _ => True) r ((cs.drop off).take r.width) x ∧ SzR r x
 | [], off, r, h, _, _ => by
   simp only [rowsF, Option.some.injEq] at h; subst h; exact ⟨(), by simp [RT.width, RepVs], szNil _⟩
 | f :: fs, off, r, h, hf, hl => by
   unfold rowsF at h
   cases hq : row f.type with
   | none => simp [hq] at h
   | some q =>
     simp only [hq] at h
     cases hr : rowsF P row (off + q.width) fs with
     | none => simp [hr] at h
     | some r' =>
       simp only [hr] at h; obtain ⟨h1, h2⟩ := bif_some h; injection h2 with h2; subst h2; rw [Bool.and_eq_true] at h1; have ho := Nat.eq_of_beq_eq_true h1.1; have hc := Nat.eq_of_beq_eq_true h1.2; rw [RT.width_app] at hl; obtain ⟨x, hx1, hx2⟩ := hf f List.mem_cons_self q hq; obtain ⟨y, hy1, hy2⟩ := fields_ok fs (off + q.width) r' hr (fun g hg => hf g (List.mem_cons_of_mem _ hg)) (by omega); refine ⟨catR q r' x y, ?_, SzR.cat q r' x y hx2 hy2⟩; rw [RT.width_app, List.take_add, List.drop_drop]; rw [ho, hc] at hx1; exact RepVs.cat q r' _ _ x y hx1 hy1
theorem rowB_ok {H : Type} {enc : TypeId × Value → H} {P : Program} {w : World} {base : Nat} {spare : Nat → Bool} {held : Bool} : (n : Nat) → ∀ {t : TypeId} {r : RT} {fuel : Nat} {cs : List Value} {y : DataW H × List MemPlace}, rowB P n t = some r →
   DataW.trod enc P w base spare held fuel t cs = some y → ∃ x : denR r, RepVs w (fun _ => True) r cs x ∧ SzR r x
 | 0, _, _, _, _, _, h, _ => by cases h
 | n + 1, t, r, fuel, cs, y, h, hd => by
   unfold rowB at h
   cases hu : P.underlying t with
   | none => simp [hu] at h
   | some d =>
     cases d with
     | bool =>
       simp only [hu, Option.some.injEq] at h; subst h; obtain ⟨b, rfl, _⟩ := DataW.trod_bool hu hd; exact ⟨((b : Bool), ()), ⟨_, _, rfl, repBool.2 rfl, rfl⟩, szCons.2 ⟨szBool, szNil _⟩⟩
     | int k =>
       simp only [hu, Option.some.injEq] at h; subst h; obtain ⟨m, rfl, _, hw⟩ := DataW.trod_int hu hd; exact ⟨((m : Int), ()), ⟨_, _, rfl, repInt.2 rfl, rfl⟩, szCons.2 ⟨szInt.2 hw, szNil _⟩⟩
     | string =>
       simp only [hu, Option.some.injEq] at h; subst h; obtain ⟨s, rfl, _, hw⟩ := DataW.trod_string hu hd; exact ⟨((s : ByteArray), ()), ⟨_, _, rfl, repStr.2 rfl, rfl⟩, szCons.2 ⟨szStr.2 hw, szNil _⟩⟩
     | slice e =>
       simp only [hu] at h
       cases hq : rowB P n e with
       | none => simp [hq] at h
       | some q =>
         simp only [hq] at h; obtain ⟨h1, h2⟩ := bif_some h; injection h2 with h2; subst h2; rw [Bool.and_eq_true] at h1; have hw := Nat.eq_of_beq_eq_true h1.1; have hpos : 0 < q.width := Nat.le_of_ble_eq_true h1.2; rcases DataW.trod_slice hu hd with ⟨rfl, _⟩ | ⟨a, len, cap, elems, rest, m, _, rfl, _, hb, hl, hm, hlen, hel, _, _⟩
         · exact ⟨(([] : List (denR q)), ()), ⟨_, _, rfl, (repSl _ _ _ _ _).2 (.inl ⟨rfl, rfl⟩), rfl⟩, szCons.2 ⟨szSl.2 ⟨Nat.zero_le _, fun x hx => by cases hx⟩, szNil _⟩⟩
         · have each : ∀ i, i < len → ∃ x : denR q, (RepR w (fun _ => True) q a.block (a.off + i * q.width) x ∧ SzR q x) ∧ a.spot = none ∧ a.block < w.heap.size := by
             intro i hi; have h3 := hel i hi; rw [List.getElem?_eq_getElem (by omega), Option.bind_eq_some_iff] at h3; obtain ⟨vs, hvs, hy⟩ := h3; obtain ⟨x, hx, hs⟩ := rowB_ok n hq hy; obtain ⟨g1, g2, g3⟩ := cells_range hvs; have hbk : (a.add (i * P.cellsOf e)).block = a.block := by unfold Addr.add; split <;> rfl
             have hof : (a.add (i * P.cellsOf e)).off = a.off + i * q.width := by
               unfold Addr.add; rw [hw]
               split
               · rename_i h0; rw [h0]; rfl
               · rfl
             rw [hbk, hof] at g2; refine ⟨x, ⟨(repR_iff q _ _ x).2 ⟨vs, g2, hx⟩, hs⟩, ?_, ?_⟩
             · have h4 := hel 0 (by omega); rw [List.getElem?_eq_getElem (by omega), Option.bind_eq_some_iff] at h4; obtain ⟨vs0, hvs0, _⟩ := h4; have := (cells_range hvs0).2.2 (by omega); simpa [Addr.add] using this
             · have hlt : 0 < vs.length := by omega
               have h5 := cell_lt (g2 0 vs[0] (by simp [hlt])); exact h5
           obtain ⟨xs, hx1, hx2⟩ := list_of len each; refine ⟨((xs : List (denR q)), ()), ⟨_, _, rfl, (repSl _ _ _ _ _).2 (.inr ⟨a, cap, by rw [hx1], by rw [hx1]; exact hl, fun hne => ?_, fun i x hi => (hx2 i x hi).1.1⟩), rfl⟩, ?_⟩
           · have hlt : 0 < xs.length := List.length_pos_iff.2 hne; have := (hx2 0 xs[0] (by simp [hlt])).2; exact ⟨this.1, this.2, trivial⟩
           · refine szCons.2 ⟨szSl.2 ⟨by show xs.length ≤ maxLen; omega, fun x hx => ?_⟩, szNil _⟩; obtain ⟨i, hi⟩ := List.getElem?_of_mem hx; exact (hx2 i x hi).1.2
     | struct fs =>
       simp only [hu] at h
       cases hq : rowsF P (rowB P n) 0 fs.toList with
       | none => simp [hq] at h
       | some q =>
         simp only [hq] at h; obtain ⟨h1, h2⟩ := bif_some h; injection h2 with h2; subst h2; have hw := Nat.eq_of_beq_eq_true h1; obtain ⟨xs, m, _, _, hlen, hxs, hel⟩ := DataW.trod_struct hu hd; obtain ⟨x, g1, g2⟩ := fields_ok (w := w) (cs := cs) fs.toList 0 q hq (fun f hf p hp => by
           obtain ⟨i, hi⟩ := List.getElem?_of_mem hf; rw [Array.getElem?_toList] at hi; have h3 := hel i f hi; have hlt : i < fs.size := (Array.getElem?_eq_some_iff.1 hi).1; rw [List.getElem?_eq_getElem (by omega)] at h3; exact rowB_ok n hp h3) (by omega)
         refine ⟨x, ?_, g2⟩; have : (cs.drop 0).take q.width = cs := by rw [List.drop_zero, List.take_of_length_le (by omega)]
         rwa [this] at g1
     | _ => simp [hu] at h
end Go.TM
namespace Go.TM
open Go Go.RowKit Go.ChangeShapes
mutual
theorem Ty.eq?_self : (t : Ty) → Ty.eq? t t = some ⟨rfl⟩
 | .int k => by simp [Ty.eq?]
 | .bool => rfl
 | .str => rfl
 | .sl r => by simp [Ty.eq?, RT.eq?_self r]
theorem RT.eq?_self : (r : RT) → RT.eq? r r = some ⟨rfl⟩
 | .nil => rfl
 | .cons t r => by simp [RT.eq?, Ty.eq?_self t, RT.eq?_self r]
end
theorem castL_self (r : RT) (xs : List (denR r)) : castL r xs = some xs := by
 unfold castL; rw [RT.eq?_self]
theorem castOs_cons {p : OP} {ps : List OP} {t : RT} {o : OV} {os : List OV} {y : denR t} {x : den p.ty} {z : denR (opsRT ps t)} (h1 : castO p o = some x) (h2 : castOs ps t os y = some z) : castOs (p :: ps) t (o :: os) y = some ((x, z) : denR (opsRT (p :: ps) t)) := by
 unfold castOs; rw [h1, h2]; rfl
theorem castO_int {k : IntKind} {n : Int} : castO (.int k) (.int k n) = some n := if_pos rfl
def shrOps : RT → List OP
 | .nil => []
 | .cons (.int k) r => .int k :: shrOps r
 | .cons .bool r => .bool :: shrOps r
 | .cons .str r => .str :: shrOps r
 | .cons (.sl q) r => .shr q :: shrOps r
def Cz.free : Cz := { bx := fun _ => 0, lc := fun _ _ => .nil, own := fun _ => none }
theorem hold_shr {w : World} {f : Nat → Lb} : (r : RT) → (t : RT) → (j : Nat) → (vs : List Value) → (x : denR r) → (y : denR t) → RepVs w (fun _ => True) r vs x → SzR r x →
   ∃ z : denR (opsRT (shrOps r) t), HoldL Cz.free w f j (opsOV (shrOps r) t z).1 vs ∧ castOs (shrOps r) t (opsOV (shrOps r) t z).1 y = some z ∧ (SzR t y → SzR (opsRT (shrOps r) t) z)
 | .nil, t, j, vs, x, y, h, _ => by
   have : vs = [] := h; subst this; exact ⟨y, rfl, rfl, id⟩
 | .cons ty r, t, j, vs, x, y, h, hs => by
   obtain ⟨v, l, rfl, h1, h2⟩ := h; obtain ⟨s1, s2⟩ := szCons.1 hs; obtain ⟨z, g1, g2, g3⟩ := hold_shr (f := f) r t (j + 1) l x.2 y h2 s2
   cases ty with
   | int k =>
     refine ⟨(x.1, z), ⟨l, by rw [repInt.1 h1], g1⟩, ?_, fun hy => szCons.2 ⟨s1, g3 hy⟩⟩; exact castOs_cons (p := .int k) (o := .int k x.1) (castO_int) g2
   | bool =>
     refine ⟨(x.1, z), ⟨l, by rw [repBool.1 h1], g1⟩, ?_, fun hy => szCons.2 ⟨s1, g3 hy⟩⟩; exact castOs_cons (p := .bool) (o := .bool x.1) (rfl) g2
   | str =>
     refine ⟨(x.1, z), ⟨l, by rw [repStr.1 h1], g1⟩, ?_, fun hy => szCons.2 ⟨s1, g3 hy⟩⟩; exact castOs_cons (p := .str) (o := .str x.1) (rfl) g2
   | sl q =>
     refine ⟨(x.1, z), ⟨v, l, rfl, RepTy.stays ⟨Nat.le_refl _, fun _ _ _ => rfl, fun _ _ _ => rfl⟩ _ _ _ h1, g1⟩, ?_, fun hy => szCons.2 ⟨s1, g3 hy⟩⟩; exact castOs_cons (p := .shr q) (o := .shr q x.1) (castL_self q x.1) g2
def OP.same : OP → OP → Bool
 | .int k, .int l => decide (k = l)
 | .bool, .bool => true
 | .str, .str => true
 | .shr r, .shr s => (RT.eq? r s).isSome
 | _, _ => false
theorem OP.same_ok {p q : OP} (h : p.same q = true) : p = q := by
 cases p <;> cases q <;> simp [OP.same] at h
 · rw [h]
 · rfl
 · rfl
 · rename_i r s; obtain ⟨⟨e⟩, _⟩ := Option.isSome_iff_exists.1 h; rw [e]
def opsSame : List OP → List OP → Bool
 | [], [] => true
 | p :: l, q :: m => p.same q && opsSame l m
 | _, _ => false
theorem opsSame_ok : (l m : List OP) → opsSame l m = true → l = m
 | [], [], _ => rfl
 | p :: l, q :: m, h => by
   unfold opsSame at h; rw [Bool.and_eq_true] at h; rw [OP.same_ok h.1, opsSame_ok l m h.2]
 | [], _ :: _, h => by simp [opsSame] at h
 | _ :: _, [], h => by simp [opsSame] at h
def psB (P : Program) : List TypeId → List AP → Bool
 | [], [] => true
 | t :: ts, .val agg os :: ps => (match rowB P 30 t with
     | some r => opsSame (shrOps r) os
     | none => false) && ((match P.underlying t with | some (.struct _) => agg | _ => !agg) && (P.readableRec t && (Nat.blt t P.types.size && psB P ts ps)))
 | _, _ => false
theorem one_cell {P : Program} {w : World} {r : Reach} {b : Nat} {t : TypeId} {v : Value} {rt : RT} (hn : rowB P 30 t = some rt) (hs : ∀ fs, P.underlying t ≠ some (.struct fs)) (h : Value.okWide P w r b t v) : v.cells.toList = [v] := by
 cases hu : P.underlying t with
 | none => simp [rowB, hu] at hn
 | some d =>
   cases v <;> try rfl
   rename_i cs
   exfalso
   cases d <;> first | exact hs _ hu | (simp [rowB, hu] at hn; done) | (simp [Value.okWide, hu, Cell.okWide, Cell.ok] at h)
theorem args_hold {H : Type} {enc : TypeId × Value → H} {P : Program} {w : World} {lc : Nat → Nat → Loc} : (ts : List TypeId) → (ps : List AP) → psB P ts ps = true → (i : Nat) → (vs : List Value) → (ds : List (DataW H)) → (p : List MemPlace) →
   (∀ (j : Nat) t v, ts[j]? = some t → vs[j]? = some v → ∃ b, Value.okWide P w .any b t v) → DataW.TrodAll enc P w 0 (fun _ => true) true ts vs ds p →
   ∃ (x : denR (headRT (ps.map some))) (avs : List AV), castAs ps avs = some x ∧ HoldAs Cz.free w lc i avs vs ∧ SzR (headRT (ps.map some)) x
 | [], [], _, i, vs, ds, p, _, hA => by
   obtain ⟨rfl, _, _⟩ := trodAll_nil hA; exact ⟨(), [], rfl, rfl, szNil _⟩
 | [], _ :: _, hb, _, _, _, _, _, _ => by simp [psB] at hb
 | t :: ts, [], hb, _, _, _, _, _, _ => by simp [psB] at hb
 | t :: ts, .io _ _ :: _, hb, _, _, _, _, _, _ => by simp [psB] at hb
 | t :: ts, .box _ _ :: _, hb, _, _, _, _, _, _ => by simp [psB] at hb
 | t :: ts, .lend _ :: _, hb, _, _, _, _, _, _ => by simp [psB] at hb
 | t :: ts, .val agg os :: ps, hb, i, vs, ds, p, hval, hA => by
   obtain ⟨v, vs', d, ds', p', q', rfl, rfl, rfl, h1, h2⟩ := trodAll_cons hA; unfold psB at hb; rw [Bool.and_eq_true, Bool.and_eq_true, Bool.and_eq_true, Bool.and_eq_true] at hb; obtain ⟨b1, b2, _, _, b5⟩ := hb; obtain ⟨y, avs, g1, g2, g3⟩ := args_hold (lc := lc) ts ps b5 (i + 1) vs' ds' q' (fun j t v ht hv => hval (j + 1) t v (by simpa using ht) (by simpa using hv)) h2; obtain ⟨b0, hok⟩ := hval 0 t v rfl rfl
   cases hr : rowB P 30 t with
   | none => rw [hr] at b1; cases b1
   | some r =>
     rw [hr] at b1; have hos := opsSame_ok _ _ b1; subst hos; obtain ⟨fuel, hd⟩ := h1; obtain ⟨x, hx1, hx2⟩ := rowB_ok 30 hr hd; obtain ⟨z, k1, k2, k3⟩ := hold_shr (f := .pend i) r (headRT (ps.map some)) 0 v.cells.toList x y hx1 hx2
     cases agg with
     | false =>
       have hs : ∀ fs, P.underlying t ≠ some (.struct fs) := by
         intro fs e; rw [e] at b2
         cases b2
       rw [one_cell hr hs hok] at k1; refine ⟨z, .val false (opsOV (shrOps r) (headRT (ps.map some)) z).1 :: avs, ?_, ⟨v, vs', rfl, k1, g2⟩, k3 g3⟩; show (match castAs ps avs with | some y => castA (.val false (shrOps r)) (headRT (ps.map some)) (.val false _) y | none => none) = _; rw [g1]; exact k2
     | true =>
       obtain ⟨fs, hu⟩ : ∃ fs, P.underlying t = some (.struct fs) := by
         cases hu : P.underlying t with
         | none => rw [hu] at b2; cases b2
         | some d =>
           rw [hu] at b2
           cases d <;> first | exact ⟨_, rfl⟩ | cases b2
       obtain ⟨cs, rfl, _⟩ : ∃ cs, v = .agg cs ∧ True := by
         unfold Value.okWide at hok; rw [hu] at hok; obtain ⟨cs, e, _⟩ := hok; exact ⟨cs, e, trivial⟩
       refine ⟨z, .val true (opsOV (shrOps r) (headRT (ps.map some)) z).1 :: avs, ?_, ⟨.agg cs, vs', rfl, ⟨cs, rfl, k1⟩, g2⟩, k3 g3⟩; show (match castAs ps avs with | some y => castA (.val true (shrOps r)) (headRT (ps.map some)) (.val true _) y | none => none) = _; rw [g1]; exact k2
theorem args_stay {H : Type} {enc : TypeId × Value → H} {P : Program} (hl : laidOutB P = true) {W W' : World} (hb : Below W.heap.size W W') : (ts : List TypeId) → (ps : List AP) → psB P ts ps = true → (vs : List Value) → (ds : List (DataW H)) → (p : List MemPlace) → (∀ x ∈ p, x.block < W.heap.size) →
   DataW.TrodAll enc P W 0 (fun _ => true) true ts vs ds p → DataW.TrodAll enc P W' 0 (fun b => decide (b < W.heap.size)) true ts vs ds p
 | [], [], _, vs, ds, p, _, hA => by
   obtain ⟨rfl, rfl, rfl⟩ := trodAll_nil hA; exact trodAll_mk0
 | [], _ :: _, hb, _, _, _, _, _ => by simp [psB] at hb
 | t :: ts, [], hb, _, _, _, _, _ => by simp [psB] at hb
 | t :: ts, .io _ _ :: _, hb, _, _, _, _, _ => by simp [psB] at hb
 | t :: ts, .box _ _ :: _, hb, _, _, _, _, _ => by simp [psB] at hb
 | t :: ts, .lend _ :: _, hb, _, _, _, _, _ => by simp [psB] at hb
 | t :: ts, .val agg os :: ps, hp, vs, ds, p, hlt, hA => by
   obtain ⟨v, vs', d, ds', p', q', rfl, rfl, rfl, h1, h2⟩ := trodAll_cons hA; unfold psB at hp; rw [Bool.and_eq_true, Bool.and_eq_true, Bool.and_eq_true, Bool.and_eq_true] at hp; obtain ⟨_, _, b3, b4, b5⟩ := hp; exact trodAll_cons_mk (Below.trod hl b3 (Nat.le_of_ble_eq_true b4) h1 hb (fun x hx => hlt x (List.mem_append_left _ hx))) (args_stay hl hb ts ps b5 vs' ds' q' (fun x hx => hlt x (List.mem_append_right _ hx)) h2)
theorem law_calls {H : Type} {enc : TypeId × Value → H} {P : Program} (hl : laidOutB P = true) {f : FuncId} {ps : List AP} {s : Nat} {t : denR (headRT (ps.map some)) → Option (denR (resRT [{ src := .tmp s, agg := false, ps := [.bool] }] (extRT ps)))}
   (hk : Known P f (semOf ps [{ src := .tmp s, agg := false, ps := [.bool] }] t)) {ts : List TypeId} (hps : psB P ts ps = true) (hlaw : ∀ x, SzR (headRT (ps.map some)) x → ∃ y, t x = some y ∧ y.1 = true)
   {W : World} {base : Nat} {args : Array Value} {ds : List (DataW H)} {p : List MemPlace} (hval : ∀ (j : Nat) t v, ts[j]? = some t → args[j]? = some v → Value.okWide P W .any base t v)
   (hA : DataW.TrodAll enc P W 0 (fun _ => true) true ts args.toList ds p) (hlt : ∀ x ∈ p, x.block < W.heap.size) :
   Calls P f args W fun e W' => e = .returned (.bool true) ∧ Below W.heap.size W W' ∧ DataW.TrodAll enc P W' 0 (fun b => decide (b < W.heap.size)) true ts args.toList ds p := by
 obtain ⟨x, avs, h1, h2, h3⟩ := args_hold (lc := fun _ _ => .nil) ts ps hps 0 args.toList ds p (fun j t v ht hv => ⟨base, hval j t v ht (by rwa [Array.getElem?_toList] at hv)⟩) hA; obtain ⟨y, hy, hy1⟩ := hlaw x h3
 let μ : Mu := { m := fun _ => False, ok := fun _ => True, an := [] }
 have hH : Handed Cz.free W μ := {
   m := fun b => ⟨fun h => h.elim, fun ⟨l, h, _⟩ => by cases h⟩
   ok := fun b => ⟨fun _ => rfl, fun _ => trivial⟩
   lt := fun b l h => by cases h
   lb := fun b l h => by cases h }
 have hs : semOf ps [{ src := .tmp s, agg := false, ps := [.bool] }] t avs = some { r := resRT [{ src := .tmp s, agg := false, ps := [.bool] }] (extRT ps), o := t x, res := fun y => { outs := (outsOf [{ src := .tmp s, agg := false, ps := [.bool] }] (extRT ps) y).1, exts := extsOf ps (outsOf [{ src := .tmp s, agg := false, ps := [.bool] }] (extRT ps) y).2 } } := by
   unfold semOf; rw [h1]
 refine (hk.ok Cz.free W μ (fun _ _ => .nil) avs args _ y hH h2 hs hy).mono fun e W' ⟨v, he, c', hb, hV, _⟩ => ?_
 have hbel : Below W.heap.size W W' := ⟨hb.kept.1, hb.kept.2.1, hb.kept.2.2.1, hb.kept.2.2.2, fun k hk => hb.old k hk (fun h => h.elim)⟩; have hv : v = .bool true := by
   have hV : HoldV c' W' [.one (.bool y.1)] v := hV; rcases hV with ⟨r, e1, g⟩ | ⟨g, _⟩
   · simp only [List.cons.injEq, and_true] at e1; subst e1; obtain ⟨v', l, e2, g2, _⟩ := g; simp only [List.cons.injEq] at e2; obtain ⟨e2, _⟩ := e2; obtain ⟨l', g3, _⟩ := g2; simp only [List.cons.injEq] at g3; rw [e2, g3.1, hy1]
   · simp at g
 exact ⟨by rw [he, hv], hbel, args_stay hl hbel ts ps hps args.toList ds p hlt hA⟩
end Go.TM
namespace Go.TM
open Go
theorem wrap_id {a : Int} (h1 : -9223372036854775808 ≤ a) (h2 : a < 9223372036854775808) : IntKind.i64.wrap a = a := by
 rw [IntKind.wrap_i64]; omega
theorem loop_ind {X E : Type} {round : X → Option (Sum X E)} {n : Nat} (st : Nat → X) (g : Nat → Option E) (hend : ∃ e, round (st n) = some (.inr e) ∧ g n = some e)
   (hstep : ∀ k, k < n → (∃ e, round (st k) = some (.inr e) ∧ g k = some e) ∨ (round (st k) = some (.inl (st (k + 1))) ∧ g k = g (k + 1))) : ∀ k, k ≤ n → loopV round (st k) = g k := by
 have key : ∀ d k, k + d = n → loopV round (st k) = g k := by
   intro d
   induction d with
   | zero =>
     intro k hk; have : k = n := by omega
     subst this; obtain ⟨e, h1, h2⟩ := hend; rw [loopV_eq, h1, h2]
   | succ d ih =>
     intro k hk; rcases hstep k (by omega) with ⟨e, h1, h2⟩ | ⟨h1, h2⟩
     · rw [loopV_eq, h1, h2]
     · rw [loopV_eq, h1, h2]; exact ih (k + 1) (by omega)
 intro k hk; exact key (n - k) k (by omega)
theorem loop_run {X E : Type} {round : X → Option (Sum X E)} (n : Nat) (st : Nat → X) {e : E} (hend : round (st n) = some (.inr e))
   (hstep : ∀ k, k < n → round (st k) = some (.inl (st (k + 1)))) : loopV round (st 0) = some e :=
 loop_ind st (fun _ => some e) ⟨e, hend, rfl⟩ (fun k hk => .inr ⟨hstep k hk, rfl⟩) 0 (Nat.zero_le _)
theorem loop_inv {X E : Type} {round : X → Option (Sum X E)} (n : Nat) (I : Nat → X → Prop) (Q : E → Prop) (hend : ∀ x, I n x → ∃ e, round x = some (.inr e) ∧ Q e)
   (hstep : ∀ k x, k < n → I k x → (∃ e, round x = some (.inr e) ∧ Q e) ∨ (∃ y, round x = some (.inl y) ∧ I (k + 1) y)) {x : X} (h : I 0 x) : ∃ e, loopV round x = some e ∧ Q e := by
 have key : ∀ d k x, k + d = n → I k x → ∃ e, loopV round x = some e ∧ Q e := by
   intro d
   induction d with
   | zero =>
     intro k x hk hI; have : k = n := by omega
     subst this; obtain ⟨e, h1, h2⟩ := hend x hI; exact ⟨e, by rw [loopV_eq, h1], h2⟩
   | succ d ih =>
     intro k x hk hI; rcases hstep k x (by omega) hI with ⟨e, h1, h2⟩ | ⟨y, h1, h2⟩
     · exact ⟨e, by rw [loopV_eq, h1], h2⟩
     · obtain ⟨e, h3, h4⟩ := ih (k + 1) y (by omega) h2; exact ⟨e, by rw [loopV_eq, h1]; exact h3, h4⟩
 exact key n 0 x (by omega) h
theorem outK_inl {A B C : Type} {a : A} {f : A → Option C} {g : B → Option C} : outK (some (.inl a)) f g = f a := rfl
theorem dec_true {p : Prop} [Decidable p] (h : p) : decide p = true := decide_eq_true h
theorem dec_false {p : Prop} [Decidable p] (h : ¬ p) : decide p = false := decide_eq_false h
theorem toNat_nat (k : Nat) : Int.toNat ((k : Nat) : Int) = k := rfl
theorem blt_true {a b : Nat} (h : a < b) : Nat.blt a b = true := Nat.ble_eq_true_of_le h
theorem ble_true {a b : Nat} (h : a ≤ b) : Nat.ble a b = true := Nat.ble_eq_true_of_le h
theorem zero_le_nat (k : Nat) : decide ((0 : Int) ≤ ((k : Nat) : Int)) = true := dec_true (by omega)
theorem lt_nat_true {k n : Nat} (h : k < n) : decide (((k : Nat) : Int) < ((n : Nat) : Int)) = true := dec_true (by omega)
theorem lt_nat_irr (n : Nat) : decide (((n : Nat) : Int) < ((n : Nat) : Int)) = false := dec_false (by omega)
theorem succ_wrap {k : Nat} (h : k < 4611686018427387904) : IntKind.i64.wrap (((k : Nat) : Int) + (1 : Int)) = (((k + 1 : Nat)) : Int) := by
 rw [wrap_id] <;> omega
def wl {α : Type} (f : α → Nat) (xs : List α) : Nat := xs.foldr (fun x n => f x + n) 0
theorem wl_cons {α : Type} (f : α → Nat) (x : α) (xs : List α) : wl f (x :: xs) = f x + wl f xs := rfl
theorem wl_mem {α : Type} (f : α → Nat) (xs : List α) : ∀ x ∈ xs, f x ≤ wl f xs := by
 induction xs with
 | nil => intro x h; cases h
 | cons y xs ih =>
   intro x h; show f x ≤ f y + wl f xs; rcases List.mem_cons.1 h with rfl | h
   · omega
   · have := ih x h; omega
theorem wl_zero {α : Type} (f : α → Nat) (h : ∀ x, f x = 0) (xs : List α) : wl f xs = 0 := by
 induction xs with
 | nil => rfl
 | cons y xs ih => show f y + wl f xs = 0; rw [h, ih]
theorem loop_two {X Y E F : Type} {r1 : X → Option (Sum X E)} {r2 : Y → Option (Sum Y F)} (n : Nat) (R : Nat → X → Y → Prop) (Q : E → F → Prop)
   (hstep : ∀ k x y, k ≤ n → R k x y → (∃ e f, r1 x = some (.inr e) ∧ r2 y = some (.inr f) ∧ Q e f) ∨ (k < n ∧ ∃ x' y', r1 x = some (.inl x') ∧ r2 y = some (.inl y') ∧ R (k + 1) x' y')) {x : X} {y : Y} (h : R 0 x y) :
   ∃ e f, loopV r1 x = some e ∧ loopV r2 y = some f ∧ Q e f := by
 have key : ∀ d k x y, k + d = n → R k x y → ∃ e f, loopV r1 x = some e ∧ loopV r2 y = some f ∧ Q e f := by
   intro d
   induction d with
   | zero =>
     intro k x y hk hR; rcases hstep k x y (by omega) hR with ⟨e, f, h1, h2, h3⟩ | ⟨hlt, _⟩
     · exact ⟨e, f, by rw [loopV_eq, h1], by rw [loopV_eq, h2], h3⟩
     · omega
   | succ d ih =>
     intro k x y hk hR; rcases hstep k x y (by omega) hR with ⟨e, f, h1, h2, h3⟩ | ⟨_, x', y', h1, h2, h3⟩
     · exact ⟨e, f, by rw [loopV_eq, h1], by rw [loopV_eq, h2], h3⟩
     · obtain ⟨e, f, g1, g2, g3⟩ := ih (k + 1) x' y' (by omega) h3; exact ⟨e, f, by rw [loopV_eq, h1]; exact g1, by rw [loopV_eq, h2]; exact g2, g3⟩
 exact key n 0 x y (by omega) h
end Go.TM
namespace Go.TM
open Go Go.RowKit
def fieldsEqB (P : Program) : Nat → RT → List Field → Bool
 | _, .nil, [] => true
 | off, .cons t r, f :: fs => Nat.beq f.offset off && ((f.name != "_") && (P.plainKey f.type && (kindB P f.type t && fieldsEqB P (off + 1) r fs)))
 | _, _, _ => false
def structEqB (P : Program) (t : TypeId) (r : RT) : Bool :=
 match P.underlying t with
 | some (.struct fs) => !P.stoodInHeld t && (!P.eqGuardType P.depth t && fieldsEqB P 0 r fs.toList)
 | _ => false
def recEq (P : Program) (t : Nat) (r : Rec) : Bool := !r.eq || (match r.row with | some q => structEqB P t q | none => false)
theorem cell_equal {P : Program} {c : Cz} {st : St} {w w' : World} {t : TypeId} {ty : Ty} {d : Nat} {a b : CV} {x y : Value} {r : Bool} {q : RT} {l : List CV} (hk : kindB P t ty = true) (hf : fitsR (.cons ty q) (a :: l) = true) (h : cellEq a b = some r) (hx : RelC c st w a x) (hy : RelC c st w b y) :
   (Op.equalIn (d + 1) t x y).run P w' = .ok r w' ∧ fitsR q l = true := by
 cases ty with
 | sl _ => cases a <;> simp [fitsR] at hf
 | int k =>
   obtain ⟨e, he, h2⟩ := optIs_ok hk
   cases a <;> try (simp [fitsR] at hf; done)
   rename_i k1 n; simp only [fitsR, Bool.and_eq_true, decide_eq_true_eq] at hf
   cases b <;> try (simp [cellEq] at h; done)
   rename_i k2 m; simp only [cellEq] at h
   split at h
   · rename_i hkk; subst hkk
     cases h
     cases e <;> simp at h2
     have hx : x = .int k1 n := hx; have hy : y = .int k1 m := hy; subst hx hy; refine ⟨?_, hf.2⟩; rw [run_equalIn_int w' d t k1 _ n m he]
     congr 1
   · cases h
 | bool =>
   obtain ⟨e, he, h2⟩ := optIs_ok hk
   cases a <;> try (simp [fitsR] at hf; done)
   cases b <;> try (simp [cellEq] at h; done)
   rename_i p q'; simp only [cellEq, Option.some.injEq] at h; subst h
   cases e <;> simp at h2
   have hx : x = .bool p := hx; have hy : y = .bool q' := hy; subst hx hy; exact ⟨run_equalIn_bool' w' d t p q' he, hf⟩
 | str =>
   obtain ⟨e, he, h2⟩ := optIs_ok hk
   cases a <;> try (simp [fitsR] at hf; done)
   cases b <;> try (simp [cellEq] at h; done)
   rename_i p q'; simp only [cellEq, Option.some.injEq] at h; subst h
   cases e <;> simp at h2
   have hx : x = .string p := hx; have hy : y = .string q' := hy; subst hx hy; exact ⟨run_equalIn_string w' d t p q' he, hf⟩
theorem fields_equal {P : Program} {c : Cz} {st : St} {w w' : World} {d : Nat} {us vs : Array Value} : (fs : List Field) → (off : Nat) → (q : RT) → (l m : List CV) → {b : Bool} → fieldsEqB P off q fs = true → fitsR q l = true → cellsEq l m = some b →
   RelL c st w l (us.toList.drop off) → RelL c st w m (vs.toList.drop off) → (Op.eqFields (d + 1) us vs fs).run P w' = .ok b w'
 | [], off, q, l, m, b, hf, hfit, hc, hl, hm => by
   cases q with
   | cons t r => cases t <;> simp [fieldsEqB] at hf
   | nil =>
     cases l with
     | cons _ _ => simp [fitsR] at hfit
     | nil => cases m with
       | cons _ _ => simp [cellsEq] at hc
       | nil =>
         simp only [cellsEq, Option.some.injEq] at hc; subst hc; simp [Op.eqFields]
 | f :: fs, off, q, l, m, b, hf, hfit, hc, hl, hm => by
   cases q with
   | nil => simp [fieldsEqB] at hf
   | cons t r =>
     unfold fieldsEqB at hf; rw [Bool.and_eq_true, Bool.and_eq_true, Bool.and_eq_true, Bool.and_eq_true] at hf; obtain ⟨h1, h2, h3, h4, h5⟩ := hf; have h1 := Nat.eq_of_beq_eq_true h1
     cases l with
     | nil => cases t <;> simp [fitsR] at hfit
     | cons x l => cases m with
       | nil => simp [cellsEq] at hc
       | cons y m =>
         simp only [cellsEq] at hc
         cases he : cellEq x y with
         | none => simp [he] at hc
         | some b1 =>
           cases hes : cellsEq l m with
           | none => simp [he, hes] at hc
           | some b2 =>
             simp only [he, hes, Option.some.injEq] at hc; subst hc; have hul : off < us.size := by
               have := hl.1; simp at this; omega
             have hvl : off < vs.size := by
               have := hm.1; simp at this; omega
             have hdu : us.toList.drop off = us[off] :: us.toList.drop (off + 1) := by
               have : off < us.toList.length := by simpa using hul
               rw [List.drop_eq_getElem_cons this]; simp
             have hdv : vs.toList.drop off = vs[off] :: vs.toList.drop (off + 1) := by
               have : off < vs.toList.length := by simpa using hvl
               rw [List.drop_eq_getElem_cons this]; simp
             rw [hdu] at hl; rw [hdv] at hm; have rx := hl.2 0 x us[off] rfl rfl; have ry := hm.2 0 y vs[off] rfl rfl; obtain ⟨k1, k2⟩ := cell_equal (w' := w') (d := d) h4 hfit he rx ry; have rl : RelL c st w l (us.toList.drop (off + 1)) := ⟨by have := hl.1; simpa using this, fun i a v ha hv => hl.2 (i + 1) a v (by simpa using ha) (by simpa using hv)⟩; have rm : RelL c st w m (vs.toList.drop (off + 1)) := ⟨by have := hm.1; simpa using this, fun i a v ha hv => hm.2 (i + 1) a v (by simpa using ha) (by simpa using hv)⟩; have ih := fields_equal (w' := w') (d := d) fs (off + 1) r l m h5 k2 hes rl rm; unfold Op.eqFields; rw [if_pos (by simpa using h2)]; have p1 : (part f.type us f.offset).run P w' = .ok us[off] w' := run_part_plain w' h3 (by rw [h1]; exact Array.getElem?_eq_getElem hul); have p2 : (part f.type vs f.offset).run P w' = .ok vs[off] w' := run_part_plain w' h3 (by rw [h1]; exact Array.getElem?_eq_getElem hvl); simp only [Sem.run_bind, p1, p2, k1, Result.andThen_ok]
             cases b1
             · simp
             · simp [ih]
theorem eqs_ok {P : Program} {tr : Tr} (h : tr.all (recEq P) = true) : EqOk P (tabOf tr) := by
 intro t ht c st w l m us vs b op ox oy hfit hc hl hm w'; have ht : (match tr.find t with | some r => r.eq | none => false) = true := ht
 cases hf : tr.find t with
 | none => rw [hf] at ht; cases ht
 | some r =>
   rw [hf] at ht; have ht : r.eq = true := ht; have h1 := Tr.all_find tr h hf; unfold recEq at h1; rw [ht, Bool.not_true, Bool.false_or] at h1; unfold Tab.fits at hfit; have hrow : (tabOf tr).row t = r.row := by show (match tr.find t with | some r => r.row | none => none) = _; rw [hf]
   rw [hrow] at hfit
   cases hq : r.row with
   | none => rw [hq] at h1; cases h1
   | some q =>
     rw [hq] at h1 hfit; have h1 : structEqB P t q = true := h1; have hfit : fitsR q l = true := hfit; unfold structEqB at h1
     split at h1
     · rename_i fs hu; rw [Bool.and_eq_true, Bool.and_eq_true, Bool.not_eq_true', Bool.not_eq_true'] at h1; have hfo : P.fieldsOf t = fs := by unfold Program.fieldsOf; rw [hu]
       refine ⟨run_eqGuard_agg w' op t ox oy us vs h1.2.1, ?_⟩; show (Op.equalIn (9999 + 1) t (.agg us) (.agg vs)).run P w' = .ok b w'; rw [run_equalIn_struct w' 9999 t us vs (by rw [hfo]; exact hu) h1.1, hfo]; exact fields_equal (d := 9998) fs.toList 0 q l m h1.2.2 hfit hc (by simpa using hl) (by simpa using hm)
     · cases h1
end Go.TM
namespace Go.TM
open Go Go.RowKit
def startNil (n : Nat) (ps : List AP) (x : denR (headRT (ps.map some))) : St := setV (start n ps x) (some 0) (.one .nils)
def startNn (n : Nat) (r : RT) (xs : List (denR r)) (ps : List AP) (x : denR (headRT (ps.map some))) : St := setV (start n ps x) (some 0) (.one (.nn r xs))
theorem fn_auto_nil {P : Program} {tr : Tr} (hT : tr.all (recOk P) = true) (hE : EqOk P (tabOf tr)) (hm : P.follows .mixedOrders = true) {S : Sems} (hS : SemsOk P S) {D : Draws} {f : FuncId} {fn : Func} {code : Code} {n : Nat} {r : RT} {qs : List AP} {rs : List RP}
   {L : Loops (denR (resRT rs (extRT (.val false [.shr r] :: qs))))} {t : denR (headRT ((AP.val false [.shr r] :: qs).map some)) → Option (denR (resRT rs (extRT (.val false [.shr r] :: qs))))}
   (hf : P.funcs[f]? = some fn) (hb : fn.body = some code) (hchk : fnB (tabOf tr) D fn code n (.val false [.shr r] :: qs) rs = true) (hname : (fn.name == "runtime.NumGoroutine") = false)
   (hL : ∀ (w0 : World) (mu : Mu) (y : denR (resRT rs (extRT (.val false [.shr r] :: qs)))), AnShape (.val false [.shr r] :: qs) mu → ∀ p ∈ loopsIn code, LoopAt P w0 mu n L y p.1 p.2)
   (hnil : ∀ z, codeK (tabOf tr) S D L code (startNil n (.val false [.shr r] :: qs) (([] : List (denR r)), z)) (finK rs (.val false [.shr r] :: qs)) = t (([] : List (denR r)), z))
   (hnn : ∀ x, codeK (tabOf tr) S D L code (startNn n r x.1 (.val false [.shr r] :: qs) x) (finK rs (.val false [.shr r] :: qs)) = t x) : Known P f (semOf (.val false [.shr r] :: qs) rs t) := by
 unfold fnB at hchk; rw [Bool.and_eq_true, Bool.and_eq_true, Bool.and_eq_true, Bool.and_eq_true] at hchk; obtain ⟨h1, h2, h3, h4, h5⟩ := hchk; refine ⟨fn_ok_at (tab_ok hT) hE hS hf hb (Nat.eq_of_beq_eq_true h1) (Nat.le_of_ble_eq_true h2) h3 (fun tm => resB_ok tm _ _ h4) (fun w0 mu y hs => codeLoops_of code (hL w0 mu y hs))
   (fun w0 mu => drawSound (tab_ok hT) hE hm (opSound (tab_ok hT) hE hS w0 mu n)) (codeDraw_of code h5) (fun w0 mu c a w x hR hn => ?_), fn, hf, hname, by rw [hb]; rfl⟩
 have hpos : 0 < n := by
   have := Nat.le_of_ble_eq_true h2; simp at this; omega
 have hreg := hR.regs 0; have hg : getV (start n (.val false [.shr r] :: qs) x) 0 = .one (.shr r x.1) := rfl; rw [hg] at hreg; have hrep : RepTy w c.ok (.sl r) (a.eval (.tmp 0)) x.1 := hreg; have h0 : 0 < a.tmps.size := by omega
 by_cases hv : a.eval (.tmp 0) = .slice none 0 0
 · refine ⟨c, startNil n (.val false [.shr r] :: qs) x, ?_, ?_⟩
   · have := hR.setV (d := some 0) (v := .one .nils) (u := a.eval (.tmp 0)) hv (fun k e => by cases e; exact h0)
     rwa [put_same a 0 _ h0 rfl] at this
   · have hx : x.1 = ([] : List (denR r)) := by
       rcases (repSl _ _ _ _ _).1 hrep with ⟨_, h⟩ | ⟨_, _, h, _⟩
       · exact h
       · rw [hv] at h; cases h
     obtain ⟨x1, z⟩ := x; simp only at hx; subst hx; exact hnil z
 · refine ⟨c, startNn n r x.1 (.val false [.shr r] :: qs) x, ?_, hnn x⟩; have := hR.setV (d := some 0) (v := .one (.nn r x.1)) (u := a.eval (.tmp 0)) ⟨hrep, hv⟩ (fun k e => by cases e; exact h0)
   rwa [put_same a 0 _ h0 rfl] at this
end Go.TM
namespace Go.TM
open Go Go.RowKit
section
variable {R : Type} (T : Tab) (S : Sems) (D : Draws) (L : Loops R)
end
def SegOk {R : Type} (P : Program) (w0 : World) (mu : Mu) (n : Nat) (k : Ex → St → Option R) (r : R) (b : Code) (hp : List (Option AP)) (g : denR (headRT hp) → Option R) : Prop :=
 ∀ x, g x = some r → ∀ {Q : Exit → Act → World → Prop}, NextC w0 mu n r k Q → ∀ {c : Cz} {a : Act} {w : World}, Rel w0 mu c (headSt hp x) a w → a.tmps.size = n → b.wp P Q a w
structure Seg (tr : Tr) (S : Sems) (D : Draws) (n : Nat) (ps : List AP) {R : Type} (L : Loops R) (k : Ex → St → Option R) (P : Program) (b : Code) (hp : List (Option AP)) (g : denR (headRT hp) → Option R) : Prop where
 ok : ∀ (w0 : World) (mu : Mu) (r : R), AnShape ps mu → codeDst n b = true → codeDraw (fun id ops => drawOk ops (D id) = true) b → codeLoops (LoopAt P w0 mu n L r) b → SegOk P w0 mu n k r b hp g
end Go.TM
namespace Go.TM
open Go Go.RowKit
noncomputable section
structure TK (P : Program) where
 tr : Tr
 hT : tr.all (recOk P) = true
 hE : EqOk P (tabOf tr)
 hm : P.follows .mixedOrders = true
structure KF (P : Program) where
 f : FuncId
 m : Pm × Pm × Pm
 sem : Sem1
 ok : Known P f sem
def KF.sl {P : Program} (k : KF P) : Nat × (Pm × Pm × Pm × Sem1) := (k.f, (k.m.1, k.m.2.1, k.m.2.2, k.sem))
def slOf {P : Program} : List (KF P) → SemL
 | [] => []
 | k :: l => k.sl :: slOf l
theorem kf_ok {P : Program} : (l : List (KF P)) → SemsOk P (semsOf (slOf l))
 | [] => sems_nil
 | k :: l => sems_cons k.ok (kf_ok l)
def kw {P : Program} {f : FuncId} {s : Sem1} (h : Known P f s) : KF P := ⟨f, (.shr, .shr, .shr), s, h⟩
def kv {P : Program} (m : Pm × Pm × Pm) {f : FuncId} {s : Sem1} (h : Known P f s) : KF P := ⟨f, m, s, h⟩
structure LD where
 i : Nat
 b : Code
 hp : List (Option AP)
 e : List (Option AP)
 q : List (Option AP)
 r : denR (headRT hp) → Option (Sum (denR (headRT hp)) (Sum (denR (headRT e)) (denR (headRT q))))
def LD.Ok (l : LD) (P : Program) (n : Nat) (ps : List AP) : Prop :=
 ∀ {R : Type} (L : Loops R) (y : R) (w0 : World) (mu : Mu), (∀ st k, L l.i l.b st k = loopAt l.hp l.e l.q l.r st k) → AnShape ps mu → LoopAt P w0 mu n L y l.i l.b
structure KLs (P : Program) (n : Nat) (ps : List AP) where
 d : LD
 ok : d.Ok P n ps
def lpsOf {P : Program} {n : Nat} {ps : List AP} {R : Type} : List (KLs P n ps) → Loops R
 | [] => noL
 | l :: ls => fun id b st k => bif Nat.beq id l.d.i then loopAt l.d.hp l.d.e l.d.q l.d.r st k else lpsOf ls id b st k
def lpsAt {P : Program} {n : Nat} {ps : List AP} : List (KLs P n ps) → List (Nat × Code)
 | [] => []
 | l :: ls => (l.d.i, l.d.b) :: lpsAt ls
def lpsB {P : Program} {n : Nat} {ps : List AP} : List (KLs P n ps) → Bool
 | [] => true
 | l :: ls => ls.all (fun m => !Nat.beq m.d.i l.d.i) && lpsB ls
theorem lps_at {P : Program} {n : Nat} {ps : List AP} {R : Type} : (ls : List (KLs P n ps)) → lpsB ls = true → ∀ l ∈ ls, ∀ st (k : Ex → St → Option R), lpsOf ls l.d.i l.d.b st k = loopAt l.d.hp l.d.e l.d.q l.d.r st k
 | [], _, l, h => by cases h
 | m :: ls, hb, l, h => by
   intro st k; unfold lpsB at hb; rw [Bool.and_eq_true] at hb; rcases List.mem_cons.1 h with rfl | h
   · show (bif Nat.beq l.d.i l.d.i then _ else _) = _; rw [Nat.beq_refl]; rfl
   · show (bif Nat.beq l.d.i m.d.i then _ else lpsOf ls l.d.i l.d.b st k) = _; have := List.all_eq_true.1 hb.1 l h; rw [Bool.not_eq_true'] at this; rw [this]; exact lps_at ls hb.2 l h st k
theorem lps_mem {P : Program} {n : Nat} {ps : List AP} : (ls : List (KLs P n ps)) → ∀ p ∈ lpsAt ls, ∃ l ∈ ls, p = (l.d.i, l.d.b)
 | [], p, h => by cases h
 | m :: ls, p, h => by
   rcases List.mem_cons.1 h with rfl | h
   · exact ⟨m, List.mem_cons_self, rfl⟩
   · obtain ⟨l, h1, h2⟩ := lps_mem ls p h; exact ⟨l, List.mem_cons_of_mem _ h1, h2⟩
theorem lps_ok {P : Program} {n : Nat} {ps : List AP} {R : Type} {ls : List (KLs P n ps)} (hb : lpsB ls = true) {c : Code} (hc : loopsIn c = lpsAt ls) (y : R) (w0 : World) (mu : Mu) (hs : AnShape ps mu) : ∀ p ∈ loopsIn c, LoopAt P w0 mu n (lpsOf ls) y p.1 p.2 := by
 rw [hc]; intro p hp; obtain ⟨l, hl, rfl⟩ := lps_mem ls p hp; exact l.ok (lpsOf ls) y w0 mu (lps_at ls hb l hl) hs
structure FC (P : Program) where
 t : TK P
 l : List (KF P)
 D : Draws
 fn : Func
 ps : List AP
abbrev FC.code {P : Program} (F : FC P) : Code := bodyOf F.fn
abbrev FC.S {P : Program} (F : FC P) : Sems := semsOf (slOf F.l)
abbrev FC.T {P : Program} (F : FC P) : Tab := tabOf F.t.tr
abbrev FC.KL {P : Program} (F : FC P) : Type := KLs P F.fn.ntmps F.ps
abbrev FC.Ok {P : Program} (F : FC P) (l : LD) : Prop := l.Ok P F.fn.ntmps F.ps
abbrev FC.fin {P : Program} (F : FC P) (rs : List RP) : Ex → St → Option (denR (resRT rs (extRT F.ps))) := finK rs F.ps
def FC.lp {P : Program} (F : FC P) (j : Nat) : Code := nthLoop F.code j
theorem FC.kl {P : Program} (F : FC P) {l : LD} (ls : List F.KL) (h1 : (loopB F.D F.ps l.hp l.e l.q F.fn.ntmps l.b && lpsB ls) = true) (h2 : loopsIn l.b = lpsAt ls)
   (ht : ∀ x, codeK F.T F.S F.D (lpsOf ls) l.b (headSt l.hp x) (roundK l.i l.hp l.e l.q) = l.r x) : F.Ok l := by
 rw [Bool.and_eq_true] at h1; exact fun _ _ w0 mu hL hs => loop_auto F.t.hT F.t.hE F.t.hm (kf_ok F.l) hs h1.1 (fun z => lps_ok h1.2 h2 z w0 mu hs) ht hL
theorem FC.kl0 {P : Program} (F : FC P) {l : LD} (h : ∀ x, (loopB F.D F.ps l.hp l.e l.q F.fn.ntmps l.b && (loopsIn l.b).isEmpty, codeK F.T F.S F.D noL l.b (headSt l.hp x) (roundK l.i l.hp l.e l.q)) = (true, l.r x)) : F.Ok l := by
 have h1 := congrArg Prod.fst (h (zeroR _)); have h1 : (loopB F.D F.ps l.hp l.e l.q F.fn.ntmps l.b && (loopsIn l.b).isEmpty) = true := h1; rw [Bool.and_eq_true] at h1; have ht : ∀ x, codeK F.T F.S F.D noL l.b (headSt l.hp x) (roundK l.i l.hp l.e l.q) = l.r x := fun x => congrArg Prod.snd (h x)
 have g : F.Ok l := F.kl [] (by rw [h1.1]; rfl) (List.isEmpty_iff.1 h1.2) ht; exact @g
abbrev FC.semF {P : Program} (F : FC P) (rs : List RP) (t : Cur (headRT (F.ps.map some)) (Option (denR (resRT rs (extRT F.ps))))) : Sem1 := semOf F.ps rs (unc (headRT (F.ps.map some)) t)
abbrev FC.Kn {P : Program} (F : FC P) (rs : List RP) (f : FuncId) (t : Cur (headRT (F.ps.map some)) (Option (denR (resRT rs (extRT F.ps))))) : Prop := Known P f (F.semF rs t)
def FC.chk {P : Program} (F : FC P) (rs : List RP) : Bool := F.fn.body.isSome && (fnB F.T F.D F.fn F.code F.fn.ntmps F.ps rs && !(F.fn.name == "runtime.NumGoroutine"))
theorem FC.chk_ok {P : Program} {F : FC P} {rs : List RP} (h : F.chk rs = true) : F.fn.body = some F.code ∧ fnB F.T F.D F.fn F.code F.fn.ntmps F.ps rs = true ∧ (F.fn.name == "runtime.NumGoroutine") = false := by
 unfold FC.chk at h; rw [Bool.and_eq_true, Bool.and_eq_true, Bool.not_eq_true'] at h; obtain ⟨h1, h2, h3⟩ := h; refine ⟨?_, h2, h3⟩; obtain ⟨c, hc⟩ := Option.isSome_iff_exists.1 h1; unfold FC.code bodyOf; rw [hc]
theorem FC.kf {P : Program} (F : FC P) {rs : List RP} {f : FuncId} {t : Cur (headRT (F.ps.map some)) (Option (denR (resRT rs (extRT F.ps))))} (ls : List F.KL) (hf : P.funcs[f]? = some F.fn) (h1 : (F.chk rs && lpsB ls) = true) (h2 : loopsIn F.code = lpsAt ls)
   (ht : ∀ x, codeK F.T F.S F.D (lpsOf ls) F.code (start F.fn.ntmps F.ps x) (F.fin rs) = unc (headRT (F.ps.map some)) t x) : F.Kn rs f t := by
 rw [Bool.and_eq_true] at h1; obtain ⟨hb, hc, hn⟩ := F.chk_ok h1.1; exact fn_auto F.t.hT F.t.hE F.t.hm (kf_ok F.l) (D := F.D) (L := lpsOf ls) hf hb hc hn (fun w0 mu y hs => lps_ok h1.2 h2 y w0 mu hs) ht
theorem FC.kf0 {P : Program} (F : FC P) {rs : List RP} {f : FuncId} {t : Cur (headRT (F.ps.map some)) (Option (denR (resRT rs (extRT F.ps))))} (hf : P.funcs[f]? = some F.fn)
   (h : ∀ x, (F.chk rs && (loopsIn F.code).isEmpty, codeK F.T F.S F.D noL F.code (start F.fn.ntmps F.ps x) (F.fin rs)) = (true, unc (headRT (F.ps.map some)) t x)) : F.Kn rs f t := by
 have h1 := congrArg Prod.fst (h (zeroR _)); have h1 : (F.chk rs && (loopsIn F.code).isEmpty) = true := h1; rw [Bool.and_eq_true] at h1; exact F.kf [] hf (by rw [h1.1]; rfl) (List.isEmpty_iff.1 h1.2) fun x => congrArg Prod.snd (h x)
theorem FC.kf1 {P : Program} (F : FC P) {rs : List RP} {f : FuncId} {t : Cur (headRT (F.ps.map some)) (Option (denR (resRT rs (extRT F.ps))))} (hf : P.funcs[f]? = some F.fn) (h1 : (F.chk rs && (loopsIn F.code).isEmpty) = true)
   (ht : ∀ x, codeK F.T F.S F.D noL F.code (start F.fn.ntmps F.ps x) (F.fin rs) = unc (headRT (F.ps.map some)) t x) : F.Kn rs f t := by
 rw [Bool.and_eq_true] at h1; exact F.kf [] hf (by rw [h1.1]; rfl) (List.isEmpty_iff.1 h1.2) ht
theorem FC.kfn {P : Program} (F : FC P) {rs : List RP} {f : FuncId} {t : Cur (headRT (F.ps.map some)) (Option (denR (resRT rs (extRT F.ps))))} (ls : List F.KL) (hf : P.funcs[f]? = some F.fn) (r : RT) (qs : List AP) (hq : F.ps = .val false [.shr r] :: qs) (h1 : (F.chk rs && lpsB ls) = true) (h2 : loopsIn F.code = lpsAt ls)
   (h4 : ∀ x, codeK F.T F.S F.D (lpsOf ls) F.code (setV (start F.fn.ntmps F.ps (hq ▸ (([] : List (denR r)), x))) (some 0) (.one .nils)) (F.fin rs) = unc (headRT (F.ps.map some)) t (hq ▸ (([] : List (denR r)), x)))
   (h5 : ∀ x, codeK F.T F.S F.D (lpsOf ls) F.code (setV (start F.fn.ntmps F.ps (hq ▸ x)) (some 0) (.one (.nn r x.1))) (F.fin rs) = unc (headRT (F.ps.map some)) t (hq ▸ x)) : F.Kn rs f t := by
 rw [Bool.and_eq_true] at h1; obtain ⟨hb, hc, hn⟩ := F.chk_ok h1.1; obtain ⟨tt, l, D, fn, ps⟩ := F; simp only at hq; subst hq; exact fn_auto_nil tt.hT tt.hE tt.hm (kf_ok l) (D := D) (L := lpsOf ls) hf hb hc hn (fun w0 mu y hs => lps_ok h1.2 h2 y w0 mu hs) h4 h5
def sp : List (Nat × AP) → Nat → List (Option AP)
 | [], k => nn k
 | (g, p) :: l, k => nn g ++ some p :: sp l k
abbrev vl (l : List OP) : AP := .val false l
abbrev va (l : List OP) : AP := .val true l
abbrev Pl.a (i : Nat) (p : Pl) : Pl := .op i .any p
abbrev Pl.t (i : Nat) (p : Pl) : Pl := .op i .take p
abbrev Pl.o (i : Nat) (p : Pl) : Pl := .op i .one p
abbrev Pl.l (i : Nat) (p : Pl) : Pl := .op i .last p
def dr (i : Nat) (p : Pl) (D : Draws := noD) : Draws := fun id => bif Nat.beq id i then p else D id
end
end Go.TM
