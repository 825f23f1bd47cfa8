/- A machine over trees: an evaluator of the code, and that what it finds is so; part 4. -/
import Derived.Test.YtlgnmloddedbaaaGreatTm3
import Derived.Carry
import Derived.ChangeArms
import Derived.ChangeOld
import Derived.OpenShut
import Derived.Laws.StructEq
import Derived.ChangeKeysEq
set_option linter.unusedSimpArgs false
set_option linter.unusedVariables false
namespace Go.TM
open Go Go.RowKit
def dk : Code → List (Nat × Code)
 | .seq a b => dk a ++ dk b
 | .cond _ a b => dk a ++ dk b
 | .block id (.loop b) => [(id, b)]
 | .block _ a => dk a
 | _ => []
theorem oS {ok : Nat → Code → Prop} : (c : Code) → (∀ p ∈ dk c, ok p.1 p.2) → dE ok c := by
 intro c
 induction c with
 | seq a b SA SB =>
   intro h; unfold dk at h; exact ⟨SA fun p hp => h p (List.mem_append_left _ hp), SB fun p hp => h p (List.mem_append_right _ hp)⟩
 | cond x a b SA SB =>
   intro h; unfold dk at h; exact ⟨SA fun p hp => h p (List.mem_append_left _ hp), SB fun p hp => h p (List.mem_append_right _ hp)⟩
 | block id a ih =>
   intro h
   by_cases hb : ∃ b', a = .loop b'
   · obtain ⟨b', rfl⟩ := hb; exact h (id, b') (by unfold dk; exact List.mem_cons_self)
   · cases a with
     | loop b' => exact absurd ⟨b', rfl⟩ hb
     | _ => unfold dk at h; unfold dE; exact ih h
 | _ => intro _; unfold dE; trivial
def Bb (c : Code) (i : Nat) : Code := match nth (dk c) i with | some p => p.2 | none => .skip
def iD (D : jU) : Code → Bool
 | .region id ops true => Cc ops (D id)
 | .seq a b => iD D a && iD D b
 | .cond _ a b => iD D a && iD D b
 | .block _ (.loop _) => true
 | .block _ a => iD D a
 | _ => true
theorem qV {D : jU} : (c : Code) → iD D c = true → dS (fun id ops => Cc ops (D id) = true) c := by
 intro c
 induction c with
 | region id ops dr =>
   intro h
   cases dr with
   | true => exact h
   | false => unfold dS; trivial
 | seq a b SA SB =>
   intro h; unfold iD at h; rw [Bool.and_eq_true] at h; exact ⟨SA h.1, SB h.2⟩
 | cond x a b SA SB =>
   intro h; unfold iD at h; rw [Bool.and_eq_true] at h; exact ⟨SA h.1, SB h.2⟩
 | block id a ih =>
   intro h
   by_cases hb : ∃ b', a = .loop b'
   · obtain ⟨b', rfl⟩ := hb; unfold dS; trivial
   · cases a with
     | loop b' => exact absurd ⟨b', rfl⟩ hb
     | _ => unfold iD at h; unfold dS; exact ih h
 | _ => intro _; unfold dS; trivial
def Src.same : Src → Src → Bool
 | .tmp a, .tmp b => Nat.beq a b
 | .cell a, .cell b => Nat.beq a b
 | .ptr a, .ptr b => Nat.beq a b
 | _, _ => false
theorem Src.yz : {a b : Src} → a.same b = true → a = b
 | .tmp _, .tmp _, h => congrArg Src.tmp (Nat.eq_of_beq_eq_true h)
 | .cell _, .cell _, h => congrArg Src.cell (Nat.eq_of_beq_eq_true h)
 | .ptr _, .ptr _, h => congrArg Src.ptr (Nat.eq_of_beq_eq_true h)
 | .tmp _, .cell _, h => by cases h
 | .tmp _, .ptr _, h => by cases h
 | .cell _, .tmp _, h => by cases h
 | .cell _, .ptr _, h => by cases h
 | .ptr _, .tmp _, h => by cases h
 | .ptr _, .cell _, h => by cases h
def G0 (T : kh) : List ResultVar → List RP → Bool
 | [], [] => true
 | .tmp t :: vs, r :: rs => (r.src.same (.tmp t) || r.src.same (.ptr t)) && G0 T vs rs
 | .cell t ty :: vs, r :: rs => r.src.same (.cell t) && ((match T.cells ty with | some n => Nat.beq n r.ps.length | none => false) && ((T.agg ty == r.agg) && G0 T vs rs))
 | _, _ => false
theorem vV {T : kh} (tm : Array Value) : (vs : List ResultVar) → (rs : List RP) → G0 T vs rs = true → wM T tm vs rs
 | [], [], _ => trivial
 | [], _ :: _, h => by simp [G0] at h
 | v :: _, [], h => by cases v <;> simp [G0] at h
 | .tmp t :: vs, r :: rs, h => by
   unfold G0 at h; rw [Bool.and_eq_true, Bool.or_eq_true] at h; exact ⟨h.1.imp Src.yz Src.yz, vV tm vs rs h.2⟩
 | .cell t ty :: vs, r :: rs, h => by
   unfold G0 at h; rw [Bool.and_eq_true, Bool.and_eq_true, Bool.and_eq_true] at h; obtain ⟨h1, h2, h3, h4⟩ := h; refine ⟨⟨Src.yz h1, ?_, by simpa using h3⟩, vV tm vs rs h4⟩
   cases hc : T.cells ty with
   | none => rw [hc] at h2; cases h2
   | some n => rw [hc] at h2; rw [Nat.eq_of_beq_eq_true h2]
abbrev SC := List (Nat × (Pm × Pm × Pm × ud))
def wP : SC → jC
 | [], _ => none
 | (g, s) :: l, f => bif Nat.beq f g then some s else wP l f
structure mF (P : Program) (f : FuncId) (zU : ud) : Prop where
 ok : FnOk P f zU
 fn : ∃ fn, P.funcs[f]? = some fn ∧ (fn.name == "runtime.NumGoroutine") = false ∧ fn.body.isNone = false
theorem NW {P : Program} : lu P (wP []) := fun f a b c zU h => by cases h
theorem Lp {P : Program} {g : Nat} {a b c : Pm} {zU : ud} {l : SC} (hk : mF P g zU) (hl : lu P (wP l)) : lu P (wP ((g, (a, b, c, zU)) :: l)) := by
 intro f a' b' c' aa0 h; unfold wP at h
 cases hb : Nat.beq f g with
 | true =>
   rw [hb] at h; injection h with h; injection h with _ h; injection h with _ h; injection h with _ h; subst h; rw [Nat.eq_of_beq_eq_true hb]; exact ⟨hk.ok, hk.fn⟩
 | false => rw [hb] at h; exact hl f a' b' c' aa0 h
def Rg (T : kh) (D : jU) (fn : Func) (code : Code) (n : Nat) (ps : List AP) (rs : List RP) : Bool :=
 Nat.beq fn.ntmps n && (Nat.ble ps.length n && (eQ n code && (G0 T fn.results.toList rs && iD D code)))
theorem P3 {P : Program} {tr : Tr} (hT : tr.all (tW P) = true) (hE : uf P (jJ tr)) (hm : P.follows .mixedOrders = true) {S : jC} (hS : lu P S) {D : jU} {f : FuncId} {fn : Func} {code : Code} {n : Nat} {ps : List AP} {rs : List RP}
   {L : l5 (aq (cn rs (bl ps)))} {t : aq (aw (ps.map some)) → Option (aq (cn rs (bl ps)))}
   (hf : P.funcs[f]? = some fn) (hb : fn.body = some code) (nT : Rg (jJ tr) D fn code n ps rs = true) (G1 : (fn.name == "runtime.NumGoroutine") = false)
   (hL : ∀ (w0 : World) (mu : Mu) (y : aq (cn rs (bl ps))), kX ps mu → ∀ p ∈ dk code, ll P w0 mu n L y p.1 p.2)
   (ID : ∀ x, eC (jJ tr) S D L code (start n ps x) (B3 rs ps) = t x) : mF P f (j3 ps rs t) := by
 unfold Rg at nT; rw [Bool.and_eq_true, Bool.and_eq_true, Bool.and_eq_true, Bool.and_eq_true] at nT; obtain ⟨h1, h2, h3, h4, h5⟩ := nT; refine ⟨W8 (jE hT) hE hS hf hb (Nat.eq_of_beq_eq_true h1) (Nat.le_of_ble_eq_true h2) h3 (fun tm => vV tm _ _ h4) (fun w0 mu y hs => oS code (hL w0 mu y hs))
   (fun w0 mu => rS (jE hT) hE hm (oQ (jE hT) hE hS w0 mu n)) (qV code h5) ID, fn, hf, G1, by rw [hb]; rfl⟩
def Ei (D : jU) (ps : List AP) (hp e0 e1 : List (Option AP)) (n : Nat) (b : Code) : Bool :=
 (fN ps hp && (fN ps e0 && fN ps e1)) && (eQ n b && iD D b)
theorem Lq {R : Type} {P : Program} {tr : Tr} (hT : tr.all (tW P) = true) (hE : uf P (jJ tr)) (hm : P.follows .mixedOrders = true) {S : jC} (hS : lu P S) {D : jU} {n id : Nat} {w0 : World} {mu : Mu} {ps : List AP} {hp e0 e1 : List (Option AP)} {b : Code} {r : R} {L : l5 R}
   {L' : l5 (Sum (aq (aw hp)) (Sum (aq (aw e0)) (aq (aw e1))))} {round : aq (aw hp) → Option (Sum (aq (aw hp)) (Sum (aq (aw e0)) (aq (aw e1))))}
   (hs : kX ps mu) (nT : Ei D ps hp e0 e1 n b = true)
   (AW : ∀ z, ∀ p ∈ dk b, ll P w0 mu n L' z p.1 p.2) (IE : ∀ x, eC (jJ tr) S D L' b (mP hp x) (zA id hp e0 e1) = round x) (hL : ∀ st k, L id b st k = zB hp e0 e1 round st k) : ll P w0 mu n L r id b := by
 unfold Ei at nT; rw [Bool.and_eq_true, Bool.and_eq_true (eQ n b)] at nT; exact PZ (oQ (jE hT) hE hS w0 mu n) (rS (jE hT) hE hm (oQ (jE hT) hE hS w0 mu n)) hs nT.1 nT.2.1 (qV b nT.2.2) (fun z => oS b (AW z)) IE hL
def cg {A B C : Type} (o : Option (Sum A B)) (f : A → Option C) (g : B → Option C) : Option C :=
 o.bind fun z => match z with
   | .inl y => f y
   | .inr y => g y
end Go.TM
namespace Go.TM
open Go Go.RowKit Go.ChangeShapes
def RT.app : RT → RT → RT
 | .nil, s => s
 | .cons t r, s => .cons t (r.app s)
def P4 : (r s : RT) → aq r → aq s → aq (r.app s)
 | .nil, _, _, y => y
 | .cons _ r, s, x, y => (x.1, P4 r s x.2 y)
mutual
def Dl : (t : Ty) → den t → Prop
 | .int k, n => (Lit.int k n).wf = true
 | .bool, _ => True
 | .str, s => ByteArray.size s ≤ maxLen
 | .sl r, xs => (JZ xs).length ≤ maxLen ∧ ∀ x ∈ JZ xs, Ce r x
def Ce : (r : RT) → aq r → Prop
 | .nil, _ => True
 | .cons t r, x => Dl t x.1 ∧ Ce r x.2
end
theorem Cf (x : aq .nil) : Ce .nil x := Ce.eq_1 x ▸ trivial
theorem mR {t : Ty} {r : RT} {x : aq (.cons t r)} : Ce (.cons t r) x ↔ Dl t x.1 ∧ Ce r x.2 := Ce.eq_2 t r x ▸ Iff.rfl
theorem Xe {k : IntKind} {n : Int} : Dl (.int k) n ↔ (Lit.int k n).wf = true := Dl.eq_1 k n ▸ Iff.rfl
theorem SD {b : Bool} : Dl .bool b := Dl.eq_2 b ▸ trivial
theorem Xf {s : ByteArray} : Dl .str s ↔ ByteArray.size s ≤ maxLen := Dl.eq_3 s ▸ Iff.rfl
theorem Xg {r : RT} {xs : List (aq r)} : Dl (.sl r) xs ↔ (xs.length ≤ maxLen ∧ ∀ x ∈ xs, Ce r x) := Dl.eq_4 r xs ▸ Iff.rfl
theorem RT.zC : (r s : RT) → (r.app s).width = r.width + s.width
 | .nil, s => by simp [RT.app, RT.width]
 | .cons t r, s => by simp [RT.app, RT.width, RT.zC r s]; omega
theorem cF.cat {w : World} {ok : Nat → Prop} : (r s : RT) → (l m : List Value) → (x : aq r) → (y : aq s) → cF w ok r l x → cF w ok s m y → cF w ok (r.app s) (l ++ m) (P4 r s x y)
 | .nil, s, l, m, x, y, h, h' => by
   have : l = [] := h; subst this; exact h'
 | .cons t r, s, l, m, x, y, h, h' => by
   obtain ⟨v, l', rfl, h1, h2⟩ := h; exact ⟨v, l' ++ m, rfl, h1, cF.cat r s l' m x.2 y h2 h'⟩
theorem Ce.cat : (r s : RT) → (x : aq r) → (y : aq s) → Ce r x → Ce s y → Ce (r.app s) (P4 r s x y)
 | .nil, _, _, _, _, h' => h'
 | .cons t r, s, x, y, h, h' => by
   exact mR.2 ⟨(mR.1 h).1, Ce.cat r s x.2 y (mR.1 h).2 h'⟩
def Cg (P : Program) (row : TypeId → Option RT) : Nat → List Field → Option RT
 | _, [] => some .nil
 | off, f :: fs => match row f.type with
   | some q => (match Cg P row (off + q.width) fs with
     | some r => bif Nat.beq f.offset off && Nat.beq (P.cellsOf f.type) q.width then some (q.app r) else none
     | none => none)
   | none => none
def Ch (P : Program) : Nat → TypeId → Option RT
 | 0, _ => none
 | n + 1, t => match P.underlying t with
   | some .bool => some (.cons .bool .nil)
   | some (.int k) => some (.cons (.int k) .nil)
   | some .string => some (.cons .str .nil)
   | some (.slice e) => (match Ch P n e with
     | some q => bif Nat.beq (P.cellsOf e) q.width && Nat.blt 0 q.width then some (.cons (.sl q) .nil) else none
     | none => none)
   | some (.struct fs) => (match Cg P (Ch P n) 0 fs.toList with
     | some r => bif Nat.beq (P.cellsOf t) r.width then some r else none
     | none => none)
   | _ => none
theorem Kq {α : Type} {Pr : Nat → α → Prop} : (n : Nat) → (∀ i, i < n → ∃ x, Pr i x) → ∃ xs : List α, xs.length = n ∧ ∀ (i : Nat) x, xs[i]? = some x → Pr i x
 | 0, _ => ⟨[], rfl, fun i x h => by simp at h⟩
 | n + 1, h => by
   obtain ⟨xs, h1, h2⟩ := Kq n (fun i hi => h i (by omega)); obtain ⟨x, hx⟩ := h n (by omega); refine ⟨xs ++ [x], by simp [h1], fun i y hy => ?_⟩
   by_cases hi : i < n
   · rw [List.getElem?_append_left (by omega)] at hy; exact h2 i y hy
   · rw [List.getElem?_append_right (by omega)] at hy; have AW : i = n := by
       have := (List.getElem?_eq_some_iff.1 hy).1; simp at this; omega
     subst AW; rw [h1, Nat.sub_self] at hy; simp at hy; rw [← hy]; exact hx
theorem Ej {w : World} {a : Addr} {v : Value} (h : w.cell? a = some v) : a.spot = none := by
 unfold World.cell? at h
 split at h
 · split at h
   · cases h
   · rename_i hs; simpa using hs
 · cases h
theorem G2 {α β : Type} {f : α → Option β} : (l : List α) → {m : List β} → l.mapM f = some m → m.length = l.length ∧ ∀ (i : Nat) a, l[i]? = some a → f a = m[i]?
 | [], m, h => by
   simp at h; subst h; exact ⟨rfl, fun i a ha => by simp at ha⟩
 | a :: l, m, h => by
   rw [List.mapM_cons] at h
   cases ha : f a with
   | none => simp [ha] at h
   | some b =>
     cases hl : l.mapM f with
     | none => simp [ha, hl] at h
     | some m' =>
       simp [ha, hl] at h; subst h; obtain ⟨h1, h2⟩ := G2 l hl; refine ⟨by simp [h1], fun i x hx => ?_⟩
       cases i with
       | zero => simp at hx; subst hx; simpa using ha
       | succ i => simpa using h2 i x (by simpa using hx)
theorem Ao {w : World} {base n : Nat} {a : Addr} {vs : List Value} (h : w.cells? base a n = some vs) : vs.length = n ∧ w.rangeAt a.block a.off vs ∧ (0 < n → a.spot = none) := by
 unfold World.cells? at h
 split at h
 · obtain ⟨h1, h2⟩ := G2 _ h; simp at h1; have each : ∀ j v, vs[j]? = some v → w.cell? (a.add j) = some v := by
     intro j v hv; have hj : j < n := by
       have := (List.getElem?_eq_some_iff.1 hv).1; omega
     rw [h2 j j (by simp [hj]), hv]
   refine ⟨h1, fun j v hv => ?_, fun hn => ?_⟩
   · have := each j v hv; have hs := Ej this; have e : a.add j = ⟨a.block, a.off + j, none⟩ := by
       unfold Addr.add at hs ⊢
       split
       · rename_i h0; subst h0; rw [if_pos rfl] at hs; obtain ⟨b, o, s⟩ := a; simp at hs; subst hs; rfl
       · rfl
     rw [← e]; exact this
   · have bX : 0 < vs.length := by omega
     have := each 0 vs[0] (by simp [bX]); have hs := Ej this; simpa [Addr.add] using hs
 · cases h
theorem Ek {P : Program} {w : World} {cs : List Value} {row : TypeId → Option RT} : (fs : List Field) → (off : Nat) → (r : RT) → Cg P row off fs = some r →
   (∀ f ∈ fs, ∀ q, row f.type = some q → ∃ x : aq q, cF w (fun _ => True) q ((cs.drop f.offset).take (P.cellsOf f.type)) x ∧ Ce q x) → off + r.width ≤ cs.length →
   ∃ x : aq r, cF w (fun _ => True) r ((cs.drop off).take r.width) x ∧ Ce r x
 | [], off, r, h, _, _ => by
   simp only [Cg, Option.some.injEq] at h; subst h; exact ⟨(), by simp [RT.width, cF], Cf _⟩
 | f :: fs, off, r, h, hf, hl => by
   unfold Cg at h
   cases hq : row f.type with
   | none => simp [hq] at h
   | some q =>
     simp only [hq] at h
     cases hr : Cg P row (off + q.width) fs with
     | none => simp [hr] at h
     | some r' =>
       simp only [hr] at h; obtain ⟨h1, h2⟩ := aH h; injection h2 with h2; subst h2; rw [Bool.and_eq_true] at h1; have ho := Nat.eq_of_beq_eq_true h1.1; have hc := Nat.eq_of_beq_eq_true h1.2; rw [RT.zC] at hl; obtain ⟨x, Ik, Di⟩ := hf f List.mem_cons_self q hq; obtain ⟨y, hy1, hy2⟩ := Ek fs (off + q.width) r' hr (fun g hg => hf g (List.mem_cons_of_mem _ hg)) (by omega); refine ⟨P4 q r' x y, ?_, Ce.cat q r' x y Di hy2⟩; rw [RT.zC, List.take_add, List.drop_drop]; rw [ho, hc] at Ik; exact cF.cat q r' _ _ x y Ik hy1
theorem Fb {H : Type} {enc : TypeId × Value → H} {P : Program} {w : World} {base : Nat} {spare : Nat → Bool} {held : Bool} : (n : Nat) → ∀ {t : TypeId} {r : RT} {fuel : Nat} {cs : List Value} {y : DataW H × List MemPlace}, Ch P n t = some r →
   DataW.trod enc P w base spare held fuel t cs = some y → ∃ x : aq r, cF w (fun _ => True) r cs x ∧ Ce r x
 | 0, _, _, _, _, _, h, _ => by cases h
 | n + 1, t, r, fuel, cs, y, h, hd => by
   unfold Ch at h
   cases hu : P.underlying t with
   | none => simp [hu] at h
   | some d =>
     cases d with
     | bool =>
       simp only [hu, Option.some.injEq] at h; subst h; obtain ⟨b, rfl, _⟩ := DataW.trod_bool hu hd; exact ⟨((b : Bool), ()), ⟨_, _, rfl, qN.2 rfl, rfl⟩, mR.2 ⟨SD, Cf _⟩⟩
     | int k =>
       simp only [hu, Option.some.injEq] at h; subst h; obtain ⟨m, rfl, _, hw⟩ := DataW.trod_int hu hd; exact ⟨((m : Int), ()), ⟨_, _, rfl, pD.2 rfl, rfl⟩, mR.2 ⟨Xe.2 hw, Cf _⟩⟩
     | string =>
       simp only [hu, Option.some.injEq] at h; subst h; obtain ⟨s, rfl, _, hw⟩ := DataW.trod_string hu hd; exact ⟨((s : ByteArray), ()), ⟨_, _, rfl, ur.2 rfl, rfl⟩, mR.2 ⟨Xf.2 hw, Cf _⟩⟩
     | slice e =>
       simp only [hu] at h
       cases hq : Ch P n e with
       | none => simp [hq] at h
       | some q =>
         simp only [hq] at h; obtain ⟨h1, h2⟩ := aH h; injection h2 with h2; subst h2; rw [Bool.and_eq_true] at h1; have hw := Nat.eq_of_beq_eq_true h1.1; have NA : 0 < q.width := Nat.le_of_ble_eq_true h1.2; rcases DataW.trod_slice hu hd with ⟨rfl, _⟩ | ⟨a, len, cap, elems, rest, m, _, rfl, _, hb, hl, hm, hlen, ZK, _, _⟩
         · exact ⟨(([] : List (aq q)), ()), ⟨_, _, rfl, (mC _ _ _ _ _).2 (.inl ⟨rfl, rfl⟩), rfl⟩, mR.2 ⟨Xg.2 ⟨Nat.zero_le _, fun x hx => by cases hx⟩, Cf _⟩⟩
         · have each : ∀ i, i < len → ∃ x : aq q, (cq w (fun _ => True) q a.block (a.off + i * q.width) x ∧ Ce q x) ∧ a.spot = none ∧ a.block < w.heap.size := by
             intro i hi; have h3 := ZK i hi; rw [List.getElem?_eq_getElem (by omega), Option.bind_eq_some_iff] at h3; obtain ⟨vs, xY, hy⟩ := h3; obtain ⟨x, hx, hs⟩ := Fb n hq hy; obtain ⟨g1, g2, g3⟩ := Ao xY; have VT : (a.add (i * P.cellsOf e)).block = a.block := by unfold Addr.add; split <;> rfl
             have hof : (a.add (i * P.cellsOf e)).off = a.off + i * q.width := by
               unfold Addr.add; rw [hw]
               split
               · rename_i h0; rw [h0]; rfl
               · rfl
             rw [VT, hof] at g2; refine ⟨x, ⟨(l6 q _ _ x).2 ⟨vs, g2, hx⟩, hs⟩, ?_, ?_⟩
             · have h4 := ZK 0 (by omega); rw [List.getElem?_eq_getElem (by omega), Option.bind_eq_some_iff] at h4; obtain ⟨vs0, aa2, _⟩ := h4; have := (Ao aa2).2.2 (by omega); simpa [Addr.add] using this
             · have bX : 0 < vs.length := by omega
               have h5 := J0 (g2 0 vs[0] (by simp [bX])); exact h5
           obtain ⟨xs, Ik, Di⟩ := Kq len each; refine ⟨((xs : List (aq q)), ()), ⟨_, _, rfl, (mC _ _ _ _ _).2 (.inr ⟨a, cap, by rw [Ik], by rw [Ik]; exact hl, fun fE => ?_, fun i x hi => (Di i x hi).1.1⟩), rfl⟩, ?_⟩
           · have bX : 0 < xs.length := List.length_pos_iff.2 fE; have := (Di 0 xs[0] (by simp [bX])).2; exact ⟨this.1, this.2, trivial⟩
           · refine mR.2 ⟨Xg.2 ⟨by show xs.length ≤ maxLen; omega, fun x hx => ?_⟩, Cf _⟩; obtain ⟨i, hi⟩ := List.getElem?_of_mem hx; exact (Di i x hi).1.2
     | struct fs =>
       simp only [hu] at h
       cases hq : Cg P (Ch P n) 0 fs.toList with
       | none => simp [hq] at h
       | some q =>
         simp only [hq] at h; obtain ⟨h1, h2⟩ := aH h; injection h2 with h2; subst h2; have hw := Nat.eq_of_beq_eq_true h1; obtain ⟨xs, m, _, _, hlen, Q8, ZK⟩ := DataW.trod_struct hu hd; obtain ⟨x, g1, g2⟩ := Ek (w := w) (cs := cs) fs.toList 0 q hq (fun f hf p hp => by
           obtain ⟨i, hi⟩ := List.getElem?_of_mem hf; rw [Array.getElem?_toList] at hi; have h3 := ZK i f hi; have bX : i < fs.size := (Array.getElem?_eq_some_iff.1 hi).1; rw [List.getElem?_eq_getElem (by omega)] at h3; exact Fb n hp h3) (by omega)
         refine ⟨x, ?_, g2⟩; have : (cs.drop 0).take q.width = cs := by rw [List.drop_zero, List.take_of_length_le (by omega)]
         rwa [this] at g1
     | _ => simp [hu] at h
end Go.TM
namespace Go.TM
open Go Go.RowKit Go.ChangeShapes
mutual
theorem Ty.uT : (t : Ty) → Ty.eq? t t = some ⟨rfl⟩
 | .int k => by simp [Ty.eq?]
 | .bool => rfl
 | .str => rfl
 | .sl r => by simp [Ty.eq?, RT.uT r]
theorem RT.uT : (r : RT) → RT.eq? r r = some ⟨rfl⟩
 | .nil => rfl
 | .cons t r => by simp [RT.eq?, Ty.uT t, RT.uT r]
end
theorem II (r : RT) (xs : List (aq r)) : bA r xs = some xs := by
 unfold bA; rw [RT.uT]
theorem qW {p : OP} {ps : List OP} {t : RT} {o : OV} {os : List OV} {y : aq t} {x : den p.ty} {z : aq (kO ps t)} (h1 : pO p o = some x) (h2 : dj ps t os y = some z) : dj (p :: ps) t (o :: os) y = some ((x, z) : aq (kO (p :: ps) t)) := by
 unfold dj; rw [h1, h2]; rfl
theorem Lr {k : IntKind} {n : Int} : pO (.int k) (.int k n) = some n := if_pos rfl
def ma : RT → List OP
 | .nil => []
 | .cons (.int k) r => .int k :: ma r
 | .cons .bool r => .bool :: ma r
 | .cons .str r => .str :: ma r
 | .cons (.sl q) r => .shr q :: ma r
def Cz.free : Cz := { bx := fun _ => 0, lc := fun _ _ => .nil, own := fun _ => none }
theorem G3 {w : World} {f : Nat → Lb} : (r : RT) → (t : RT) → (j : Nat) → (vs : List Value) → (x : aq r) → (y : aq t) → cF w (fun _ => True) r vs x → Ce r x →
   ∃ z : aq (kO (ma r) t), bd Cz.free w f j (dA (ma r) t z).1 vs ∧ dj (ma r) t (dA (ma r) t z).1 y = some z ∧ (Ce t y → Ce (kO (ma r) t) z)
 | .nil, t, j, vs, x, y, h, _ => by
   have : vs = [] := h; subst this; exact ⟨y, rfl, rfl, id⟩
 | .cons ty r, t, j, vs, x, y, h, hs => by
   obtain ⟨v, l, rfl, h1, h2⟩ := h; obtain ⟨s1, s2⟩ := mR.1 hs; obtain ⟨z, g1, g2, g3⟩ := G3 (f := f) r t (j + 1) l x.2 y h2 s2
   cases ty with
   | int k =>
     refine ⟨(x.1, z), ⟨l, by rw [pD.1 h1], g1⟩, ?_, fun hy => mR.2 ⟨s1, g3 hy⟩⟩; exact qW (p := .int k) (o := .int k x.1) (Lr) g2
   | bool =>
     refine ⟨(x.1, z), ⟨l, by rw [qN.1 h1], g1⟩, ?_, fun hy => mR.2 ⟨s1, g3 hy⟩⟩; exact qW (p := .bool) (o := .bool x.1) (rfl) g2
   | str =>
     refine ⟨(x.1, z), ⟨l, by rw [ur.1 h1], g1⟩, ?_, fun hy => mR.2 ⟨s1, g3 hy⟩⟩; exact qW (p := .str) (o := .str x.1) (rfl) g2
   | sl q =>
     refine ⟨(x.1, z), ⟨v, l, rfl, bL.stays ⟨Nat.le_refl _, fun _ _ _ => rfl, fun _ _ _ => rfl⟩ _ _ _ h1, g1⟩, ?_, fun hy => mR.2 ⟨s1, g3 hy⟩⟩; exact qW (p := .shr q) (o := .shr q x.1) (II q x.1) g2
def OP.same : OP → OP → Bool
 | .int k, .int l => decide (k = l)
 | .bool, .bool => true
 | .str, .str => true
 | .shr r, .shr s => (RT.eq? r s).isSome
 | _, _ => false
theorem OP.yz {p q : OP} (h : p.same q = true) : p = q := by
 cases p <;> cases q <;> simp [OP.same] at h
 · rw [h]
 · rfl
 · rfl
 · rename_i r s; obtain ⟨⟨e⟩, _⟩ := Option.isSome_iff_exists.1 h; rw [e]
def vW : List OP → List OP → Bool
 | [], [] => true
 | p :: l, q :: m => p.same q && vW l m
 | _, _ => false
theorem Ci : (l m : List OP) → vW l m = true → l = m
 | [], [], _ => rfl
 | p :: l, q :: m, h => by
   unfold vW at h; rw [Bool.and_eq_true] at h; rw [OP.yz h.1, Ci l m h.2]
 | [], _ :: _, h => by simp [vW] at h
 | _ :: _, [], h => by simp [vW] at h
def HZ (P : Program) : List TypeId → List AP → Bool
 | [], [] => true
 | t :: ts, .val agg os :: ps => (match Ch P 30 t with
     | some r => vW (ma r) os
     | none => false) && ((match P.underlying t with | some (.struct _) => agg | _ => !agg) && (P.readableRec t && (Nat.blt t P.types.size && HZ P ts ps)))
 | _, _ => false
theorem one_cell {P : Program} {w : World} {r : Reach} {b : Nat} {t : TypeId} {v : Value} {rt : RT} (hn : Ch P 30 t = some rt) (hs : ∀ fs, P.underlying t ≠ some (.struct fs)) (h : Value.okWide P w r b t v) : v.cells.toList = [v] := by
 cases hu : P.underlying t with
 | none => simp [Ch, hu] at hn
 | some d =>
   cases v <;> try rfl
   rename_i cs
   exfalso
   cases d <;> first | exact hs _ hu | (simp [Ch, hu] at hn; done) | (simp [Value.okWide, hu, Cell.okWide, Cell.ok] at h)
theorem El {H : Type} {enc : TypeId × Value → H} {P : Program} {w : World} {lc : Nat → Nat → Loc} : (ts : List TypeId) → (ps : List AP) → HZ P ts ps = true → (i : Nat) → (vs : List Value) → (ds : List (DataW H)) → (p : List MemPlace) →
   (∀ (j : Nat) t v, ts[j]? = some t → vs[j]? = some v → ∃ b, Value.okWide P w .any b t v) → DataW.TrodAll enc P w 0 (fun _ => true) true ts vs ds p →
   ∃ (x : aq (aw (ps.map some))) (dC : List AV), eM ps dC = some x ∧ wJ Cz.free w lc i dC vs ∧ Ce (aw (ps.map some)) x
 | [], [], _, i, vs, ds, p, _, hA => by
   obtain ⟨rfl, _, _⟩ := trodAll_nil hA; exact ⟨(), [], rfl, rfl, Cf _⟩
 | [], _ :: _, hb, _, _, _, _, _, _ => by simp [HZ] at hb
 | t :: ts, [], hb, _, _, _, _, _, _ => by simp [HZ] at hb
 | t :: ts, .io _ _ :: _, hb, _, _, _, _, _, _ => by simp [HZ] at hb
 | t :: ts, .box _ _ :: _, hb, _, _, _, _, _, _ => by simp [HZ] at hb
 | t :: ts, .bD _ :: _, hb, _, _, _, _, _, _ => by simp [HZ] at hb
 | t :: ts, .val agg os :: ps, hb, i, vs, ds, p, pN, hA => by
   obtain ⟨v, Xh, d, ds', p', q', rfl, rfl, rfl, h1, h2⟩ := trodAll_cons hA; unfold HZ at hb; rw [Bool.and_eq_true, Bool.and_eq_true, Bool.and_eq_true, Bool.and_eq_true] at hb; obtain ⟨b1, b2, _, _, b5⟩ := hb; obtain ⟨y, dC, g1, g2, g3⟩ := El (lc := lc) ts ps b5 (i + 1) Xh ds' q' (fun j t v ht hv => pN (j + 1) t v (by simpa using ht) (by simpa using hv)) h2; obtain ⟨b0, fF⟩ := pN 0 t v rfl rfl
   cases hr : Ch P 30 t with
   | none => rw [hr] at b1; cases b1
   | some r =>
     rw [hr] at b1; have ri := Ci _ _ b1; subst ri; obtain ⟨fuel, hd⟩ := h1; obtain ⟨x, Ik, Di⟩ := Fb 30 hr hd; obtain ⟨z, k1, k2, k3⟩ := G3 (f := .bK i) r (aw (ps.map some)) 0 v.cells.toList x y Ik Di
     cases agg with
     | false =>
       have hs : ∀ fs, P.underlying t ≠ some (.struct fs) := by
         intro fs e; rw [e] at b2
         cases b2
       rw [one_cell hr hs fF] at k1; refine ⟨z, .val false (dA (ma r) (aw (ps.map some)) z).1 :: dC, ?_, ⟨v, Xh, rfl, k1, g2⟩, k3 g3⟩; show (match eM ps dC with | some y => Ea (.val false (ma r)) (aw (ps.map some)) (.val false _) y | none => none) = _; rw [g1]; exact k2
     | true =>
       obtain ⟨fs, hu⟩ : ∃ fs, P.underlying t = some (.struct fs) := by
         cases hu : P.underlying t with
         | none => rw [hu] at b2; cases b2
         | some d =>
           rw [hu] at b2
           cases d <;> first | exact ⟨_, rfl⟩ | cases b2
       obtain ⟨cs, rfl, _⟩ : ∃ cs, v = .agg cs ∧ True := by
         unfold Value.okWide at fF; rw [hu] at fF; obtain ⟨cs, e, _⟩ := fF; exact ⟨cs, e, trivial⟩
       refine ⟨z, .val true (dA (ma r) (aw (ps.map some)) z).1 :: dC, ?_, ⟨.agg cs, Xh, rfl, ⟨cs, rfl, k1⟩, g2⟩, k3 g3⟩; show (match eM ps dC with | some y => Ea (.val true (ma r)) (aw (ps.map some)) (.val true _) y | none => none) = _; rw [g1]; exact k2
theorem Em {H : Type} {enc : TypeId × Value → H} {P : Program} (hl : laidOutB P = true) {W W' : World} (hb : Below W.heap.size W W') : (ts : List TypeId) → (ps : List AP) → HZ P ts ps = true → (vs : List Value) → (ds : List (DataW H)) → (p : List MemPlace) → (∀ x ∈ p, x.block < W.heap.size) →
   DataW.TrodAll enc P W 0 (fun _ => true) true ts vs ds p → DataW.TrodAll enc P W' 0 (fun b => decide (b < W.heap.size)) true ts vs ds p
 | [], [], _, vs, ds, p, _, hA => by
   obtain ⟨rfl, rfl, rfl⟩ := trodAll_nil hA; exact trodAll_mk0
 | [], _ :: _, hb, _, _, _, _, _ => by simp [HZ] at hb
 | t :: ts, [], hb, _, _, _, _, _ => by simp [HZ] at hb
 | t :: ts, .io _ _ :: _, hb, _, _, _, _, _ => by simp [HZ] at hb
 | t :: ts, .box _ _ :: _, hb, _, _, _, _, _ => by simp [HZ] at hb
 | t :: ts, .bD _ :: _, hb, _, _, _, _, _ => by simp [HZ] at hb
 | t :: ts, .val agg os :: ps, hp, vs, ds, p, bX, hA => by
   obtain ⟨v, Xh, d, ds', p', q', rfl, rfl, rfl, h1, h2⟩ := trodAll_cons hA; unfold HZ at hp; rw [Bool.and_eq_true, Bool.and_eq_true, Bool.and_eq_true, Bool.and_eq_true] at hp; obtain ⟨_, _, b3, b4, b5⟩ := hp; exact trodAll_cons_mk (Below.trod hl b3 (Nat.le_of_ble_eq_true b4) h1 hb (fun x hx => bX x (List.mem_append_left _ hx))) (Em hl hb ts ps b5 Xh ds' q' (fun x hx => bX x (List.mem_append_right _ hx)) h2)
theorem Ls {H : Type} {enc : TypeId × Value → H} {P : Program} (hl : laidOutB P = true) {f : FuncId} {ps : List AP} {s : Nat} {t : aq (aw (ps.map some)) → Option (aq (cn [{ src := .tmp s, agg := false, ps := [.bool] }] (bl ps)))}
   (hk : mF P f (j3 ps [{ src := .tmp s, agg := false, ps := [.bool] }] t)) {ts : List TypeId} (PH : HZ P ts ps = true) (aa4 : ∀ x, Ce (aw (ps.map some)) x → ∃ y, t x = some y ∧ y.1 = true)
   {W : World} {base : Nat} {args : Array Value} {ds : List (DataW H)} {p : List MemPlace} (pN : ∀ (j : Nat) t v, ts[j]? = some t → args[j]? = some v → Value.okWide P W .any base t v)
   (hA : DataW.TrodAll enc P W 0 (fun _ => true) true ts args.toList ds p) (bX : ∀ x ∈ p, x.block < W.heap.size) :
   Calls P f args W fun e W' => e = .returned (.bool true) ∧ Below W.heap.size W W' ∧ DataW.TrodAll enc P W' 0 (fun b => decide (b < W.heap.size)) true ts args.toList ds p := by
 obtain ⟨x, dC, h1, h2, h3⟩ := El (lc := fun _ _ => .nil) ts ps PH 0 args.toList ds p (fun j t v ht hv => ⟨base, pN j t v ht (by rwa [Array.getElem?_toList] at hv)⟩) hA; obtain ⟨y, hy, hy1⟩ := aa4 x h3
 let μ : Mu := { m := fun _ => False, ok := fun _ => True, an := [] }
 have hH : Handed Cz.free W μ := {
   m := fun b => ⟨fun h => h.elim, fun ⟨l, h, _⟩ => by cases h⟩
   ok := fun b => ⟨fun _ => rfl, fun _ => trivial⟩
   lt := fun b l h => by cases h
   lb := fun b l h => by cases h }
 have hs : j3 ps [{ src := .tmp s, agg := false, ps := [.bool] }] t dC = some { r := cn [{ src := .tmp s, agg := false, ps := [.bool] }] (bl ps), o := t x, res := fun y => { outs := (ft [{ src := .tmp s, agg := false, ps := [.bool] }] (bl ps) y).1, exts := lx ps (ft [{ src := .tmp s, agg := false, ps := [.bool] }] (bl ps) y).2 } } := by
   unfold j3; rw [h1]
 refine (hk.ok Cz.free W μ (fun _ _ => .nil) dC args _ y hH h2 hs hy).mono fun e W' ⟨v, he, c', hb, hV, _⟩ => ?_
 have Xi : Below W.heap.size W W' := ⟨hb.kept.1, hb.kept.2.1, hb.kept.2.2.1, hb.kept.2.2.2, fun k hk => hb.old k hk (fun h => h.elim)⟩; have hv : v = .bool true := by
   have hV : pJ c' W' [.one (.bool y.1)] v := hV; rcases hV with ⟨r, e1, g⟩ | ⟨g, _⟩
   · simp only [List.cons.injEq, and_true] at e1; subst e1; obtain ⟨v', l, e2, g2, _⟩ := g; simp only [List.cons.injEq] at e2; obtain ⟨e2, _⟩ := e2; obtain ⟨l', g3, _⟩ := g2; simp only [List.cons.injEq] at g3; rw [e2, g3.1, hy1]
   · simp at g
 exact ⟨by rw [he, hv], Xi, Em hl Xi ts ps PH args.toList ds p bX hA⟩
theorem fO {a : Int} (h1 : -9223372036854775808 ≤ a) (h2 : a < 9223372036854775808) : IntKind.i64.wrap a = a := by
 rw [IntKind.wrap_i64]; omega
theorem rU {X E : Type} {round : X → Option (Sum X E)} {n : Nat} (st : Nat → X) (g : Nat → Option E) (NX : ∃ e, round (st n) = some (.inr e) ∧ g n = some e)
   (Ap : ∀ k, k < n → (∃ e, round (st k) = some (.inr e) ∧ g k = some e) ∨ (round (st k) = some (.inl (st (k + 1))) ∧ g k = g (k + 1))) : ∀ k, k ≤ n → aE round (st k) = g k := by
 have key : ∀ d k, k + d = n → aE round (st k) = g k := by
   intro d
   induction d with
   | zero =>
     intro k hk; have : k = n := by omega
     subst this; obtain ⟨e, h1, h2⟩ := NX; rw [gP, h1, h2]
   | succ d ih =>
     intro k hk; rcases Ap k (by omega) with ⟨e, h1, h2⟩ | ⟨h1, h2⟩
     · rw [gP, h1, h2]
     · rw [gP, h1, h2]; exact ih (k + 1) (by omega)
 intro k hk; exact key (n - k) k (by omega)
theorem cX {X E : Type} {round : X → Option (Sum X E)} (n : Nat) (st : Nat → X) {e : E} (NX : round (st n) = some (.inr e))
   (Ap : ∀ k, k < n → round (st k) = some (.inl (st (k + 1)))) : aE round (st 0) = some e :=
 rU st (fun _ => some e) ⟨e, NX, rfl⟩ (fun k hk => .inr ⟨Ap k hk, rfl⟩) 0 (Nat.zero_le _)
theorem ev {X E : Type} {round : X → Option (Sum X E)} (n : Nat) (I : Nat → X → Prop) (Q : E → Prop) (NX : ∀ x, I n x → ∃ e, round x = some (.inr e) ∧ Q e)
   (Ap : ∀ k x, k < n → I k x → (∃ e, round x = some (.inr e) ∧ Q e) ∨ (∃ y, round x = some (.inl y) ∧ I (k + 1) y)) {x : X} (h : I 0 x) : ∃ e, aE round x = some e ∧ Q e := by
 have key : ∀ d k x, k + d = n → I k x → ∃ e, aE round x = some e ∧ Q e := by
   intro d
   induction d with
   | zero =>
     intro k x hk hI; have : k = n := by omega
     subst this; obtain ⟨e, h1, h2⟩ := NX x hI; exact ⟨e, by rw [gP, h1], h2⟩
   | succ d ih =>
     intro k x hk hI; rcases Ap k x (by omega) hI with ⟨e, h1, h2⟩ | ⟨y, h1, h2⟩
     · exact ⟨e, by rw [gP, h1], h2⟩
     · obtain ⟨e, h3, h4⟩ := ih (k + 1) y (by omega) h2; exact ⟨e, by rw [gP, h1]; exact h3, h4⟩
 exact key n 0 x (by omega) h
theorem jd {A B C : Type} {a : A} {f : A → Option C} {g : B → Option C} : cg (some (.inl a)) f g = f a := rfl
theorem af {p : Prop} [Decidable p] (h : p) : decide p = true := decide_eq_true h
theorem aj {p : Prop} [Decidable p] (h : ¬ p) : decide p = false := decide_eq_false h
theorem au (k : Nat) : Int.toNat ((k : Nat) : Int) = k := rfl
theorem fH {a b : Nat} (h : a < b) : Nat.blt a b = true := Nat.ble_eq_true_of_le h
theorem aF {a b : Nat} (h : a ≤ b) : Nat.ble a b = true := Nat.ble_eq_true_of_le h
theorem ak (k : Nat) : decide ((0 : Int) ≤ ((k : Nat) : Int)) = true := af (by omega)
theorem ax {k n : Nat} (h : k < n) : decide (((k : Nat) : Int) < ((n : Nat) : Int)) = true := af (by omega)
theorem aD (n : Nat) : decide (((n : Nat) : Int) < ((n : Nat) : Int)) = false := aj (by omega)
theorem aG {k : Nat} (h : k < 4611686018427387904) : IntKind.i64.wrap (((k : Nat) : Int) + (1 : Int)) = (((k + 1 : Nat)) : Int) := by
 rw [fO] <;> omega
theorem Cj (bs : ByteArray) : ∀ (d i : Nat) (r : List UInt8), bs.size - i = d → ByteArray.toList.loop bs i r = r.reverse ++ bs.data.toList.drop i
 | 0, i, r, h => by
   unfold ByteArray.toList.loop; rw [if_neg (by omega)]; have : bs.data.toList.drop i = [] := List.drop_of_length_le (by
     have : bs.data.toList.length = bs.size := Array.length_toList; omega)
   rw [this, List.append_nil]
 | d + 1, i, r, h => by
   unfold ByteArray.toList.loop; have bX : i < bs.size := by omega
   rw [if_pos bX, Cj bs d (i + 1) _ (by omega)]; have aa5 : i < bs.data.toList.length := by
     have : bs.data.toList.length = bs.size := Array.length_toList; omega
   rw [List.reverse_cons, List.append_assoc, List.drop_eq_getElem_cons aa5]
   congr 2
   simp [ByteArray.get!, bX]
theorem Ck (bs : ByteArray) : bs.toList = bs.data.toList := by
 unfold ByteArray.toList; rw [Cj bs _ 0 [] rfl]; simp
theorem Lt {a b : ByteArray} : lX a b = true ↔ a = b := by
 unfold lX; rw [beq_iff_eq]
 constructor
 · intro h; rw [Ck, Ck] at h; obtain ⟨⟨x⟩⟩ := a; obtain ⟨⟨y⟩⟩ := b; exact congrArg (fun l => ByteArray.mk ⟨l⟩) h
 · intro h; rw [h]
theorem wQ (a : ByteArray) : lX a a = true := Lt.2 rfl
def wl {α : Type} (f : α → Nat) (xs : List α) : Nat := xs.foldr (fun x n => f x + n) 0
theorem P5 {α : Type} (f : α → Nat) (x : α) (xs : List α) : wl f (x :: xs) = f x + wl f xs := rfl
theorem SE {α : Type} (f : α → Nat) (xs ys : List α) : wl f (xs ++ ys) = wl f xs + wl f ys := by
 induction xs with
 | nil => simp [wl]
 | cons x xs ih =>
   show f x + wl f (xs ++ ys) = f x + wl f xs + wl f ys; rw [ih]; omega
theorem vX {α : Type} (f : α → Nat) (h : ∀ x, f x = 0) (xs : List α) : wl f xs = 0 := by
 induction xs with
 | nil => rfl
 | cons y xs ih => show f y + wl f xs = 0; rw [h, ih]
theorem mb {X Y E F : Type} {r1 : X → Option (Sum X E)} {r2 : Y → Option (Sum Y F)} (n : Nat) (R : Nat → X → Y → Prop) (Q : E → F → Prop)
   (Ap : ∀ k x y, k ≤ n → R k x y → (∃ e f, r1 x = some (.inr e) ∧ r2 y = some (.inr f) ∧ Q e f) ∨ (k < n ∧ ∃ x' y', r1 x = some (.inl x') ∧ r2 y = some (.inl y') ∧ R (k + 1) x' y')) {x : X} {y : Y} (h : R 0 x y) :
   ∃ e f, aE r1 x = some e ∧ aE r2 y = some f ∧ Q e f := by
 have key : ∀ d k x y, k + d = n → R k x y → ∃ e f, aE r1 x = some e ∧ aE r2 y = some f ∧ Q e f := by
   intro d
   induction d with
   | zero =>
     intro k x y hk hR; rcases Ap k x y (by omega) hR with ⟨e, f, h1, h2, h3⟩ | ⟨bX, _⟩
     · exact ⟨e, f, by rw [gP, h1], by rw [gP, h2], h3⟩
     · omega
   | succ d ih =>
     intro k x y hk hR; rcases Ap k x y (by omega) hR with ⟨e, f, h1, h2, h3⟩ | ⟨_, x', y', h1, h2, h3⟩
     · exact ⟨e, f, by rw [gP, h1], by rw [gP, h2], h3⟩
     · obtain ⟨e, f, g1, g2, g3⟩ := ih (k + 1) x' y' (by omega) h3; exact ⟨e, f, by rw [gP, h1]; exact g1, by rw [gP, h2]; exact g2, g3⟩
 exact key n 0 x y (by omega) h
end Go.TM
namespace Go.TM
open Go Go.RowKit
def pw (P : Program) : Nat → RT → List Field → Bool
 | _, .nil, [] => true
 | off, .cons t r, f :: fs => Nat.beq f.offset off && ((f.name != "_") && (P.plainKey f.type && (GZ P f.type t && pw P (off + 1) r fs)))
 | _, _, _ => false
def zD (P : Program) (t : TypeId) (r : RT) : Bool :=
 match P.underlying t with
 | some (.struct fs) => !P.stoodInHeld t && (!P.eqGuardType P.depth t && pw P 0 r fs.toList)
 | _ => false
def Rh (P : Program) (t : Nat) (r : Rec) : Bool := !r.eq || (match r.row with | some q => zD P t q | none => false)
theorem IJ {P : Program} {c : Cz} {st : St} {w w' : World} {t : TypeId} {ty : Ty} {d : Nat} {a b : CV} {x y : Value} {r : Bool} {q : RT} {l : List CV} (hk : GZ P t ty = true) (hf : pB (.cons ty q) (a :: l) = true) (h : so a b = some r) (hx : iT c st w a x) (hy : iT c st w b y) :
   (Op.equalIn (d + 1) t x y).run P w' = .ok r w' ∧ pB q l = true := by
 cases ty with
 | sl _ => cases a <;> simp [pB] at hf
 | int k =>
   obtain ⟨e, he, h2⟩ := fa hk
   cases a <;> try (simp [pB] at hf; done)
   rename_i k1 n; simp only [pB, Bool.and_eq_true, decide_eq_true_eq] at hf
   cases b <;> try (simp [so] at h; done)
   rename_i k2 m; simp only [so] at h
   split at h
   · rename_i Ps; subst Ps
     cases h
     cases e <;> simp at h2
     have hx : x = .int k1 n := hx; have hy : y = .int k1 m := hy; subst hx hy; refine ⟨?_, hf.2⟩; rw [run_equalIn_int w' d t k1 _ n m he]
     congr 1
   · cases h
 | bool =>
   obtain ⟨e, he, h2⟩ := fa hk
   cases a <;> try (simp [pB] at hf; done)
   cases b <;> try (simp [so] at h; done)
   rename_i p q'; simp only [so, Option.some.injEq] at h; subst h
   cases e <;> simp at h2
   have hx : x = .bool p := hx; have hy : y = .bool q' := hy; subst hx hy; exact ⟨run_equalIn_bool' w' d t p q' he, hf⟩
 | str =>
   obtain ⟨e, he, h2⟩ := fa hk
   cases a <;> try (simp [pB] at hf; done)
   cases b <;> try (simp [so] at h; done)
   rename_i p q'; simp only [so, Option.some.injEq] at h; subst h
   cases e <;> simp at h2
   have hx : x = .string p := hx; have hy : y = .string q' := hy; subst hx hy; exact ⟨run_equalIn_string w' d t p q' he, hf⟩
theorem yA {P : Program} {c : Cz} {st : St} {w w' : World} {d : Nat} {us vs : Array Value} : (fs : List Field) → (off : Nat) → (q : RT) → (l m : List CV) → {b : Bool} → pw P off q fs = true → pB q l = true → lY l m = some b →
   eK c st w l (us.toList.drop off) → eK c st w m (vs.toList.drop off) → (Op.eqFields (d + 1) us vs fs).run P w' = .ok b w'
 | [], off, q, l, m, b, hf, pG, hc, hl, hm => by
   cases q with
   | cons t r => cases t <;> simp [pw] at hf
   | nil =>
     cases l with
     | cons _ _ => simp [pB] at pG
     | nil => cases m with
       | cons _ _ => simp [lY] at hc
       | nil =>
         simp only [lY, Option.some.injEq] at hc; subst hc; simp [Op.eqFields]
 | f :: fs, off, q, l, m, b, hf, pG, hc, hl, hm => by
   cases q with
   | nil => simp [pw] at hf
   | cons t r =>
     unfold pw at hf; rw [Bool.and_eq_true, Bool.and_eq_true, Bool.and_eq_true, Bool.and_eq_true] at hf; obtain ⟨h1, h2, h3, h4, h5⟩ := hf; have h1 := Nat.eq_of_beq_eq_true h1
     cases l with
     | nil => cases t <;> simp [pB] at pG
     | cons x l => cases m with
       | nil => simp [lY] at hc
       | cons y m =>
         simp only [lY] at hc
         cases he : so x y with
         | none => simp [he] at hc
         | some b1 =>
           cases hes : lY l m with
           | none => simp [he, hes] at hc
           | some b2 =>
             simp only [he, hes, Option.some.injEq] at hc; subst hc; have DT : off < us.size := by
               have := hl.1; simp at this; omega
             have xK : off < vs.size := by
               have := hm.1; simp at this; omega
             have hdu : us.toList.drop off = us[off] :: us.toList.drop (off + 1) := by
               have : off < us.toList.length := by simpa using DT
               rw [List.drop_eq_getElem_cons this]; simp
             have Wz : vs.toList.drop off = vs[off] :: vs.toList.drop (off + 1) := by
               have : off < vs.toList.length := by simpa using xK
               rw [List.drop_eq_getElem_cons this]; simp
             rw [hdu] at hl; rw [Wz] at hm; have rx := hl.2 0 x us[off] rfl rfl; have ry := hm.2 0 y vs[off] rfl rfl; obtain ⟨k1, k2⟩ := IJ (w' := w') (d := d) h4 pG he rx ry; have rl : eK c st w l (us.toList.drop (off + 1)) := ⟨by have := hl.1; simpa using this, fun i a v ha hv => hl.2 (i + 1) a v (by simpa using ha) (by simpa using hv)⟩; have rm : eK c st w m (vs.toList.drop (off + 1)) := ⟨by have := hm.1; simpa using this, fun i a v ha hv => hm.2 (i + 1) a v (by simpa using ha) (by simpa using hv)⟩; have ih := yA (w' := w') (d := d) fs (off + 1) r l m h5 k2 hes rl rm; unfold Op.eqFields; rw [if_pos (by simpa using h2)]; have p1 : (part f.type us f.offset).run P w' = .ok us[off] w' := run_part_plain w' h3 (by rw [h1]; exact Array.getElem?_eq_getElem DT); have p2 : (part f.type vs f.offset).run P w' = .ok vs[off] w' := run_part_plain w' h3 (by rw [h1]; exact Array.getElem?_eq_getElem xK); simp only [Sem.run_bind, p1, p2, k1, Result.andThen_ok]
             cases b1
             · simp
             · simp [ih]
theorem Fc {P : Program} {tr : Tr} (h : tr.all (Rh P) = true) : uf P (jJ tr) := by
 intro t ht c st w l m us vs b op ox oy pG hc hl hm w'; have ht : (match tr.find t with | some r => r.eq | none => false) = true := ht
 cases hf : tr.find t with
 | none => rw [hf] at ht; cases ht
 | some r =>
   rw [hf] at ht; have ht : r.eq = true := ht; have h1 := Tr.yy tr h hf; unfold Rh at h1; rw [ht, Bool.not_true, Bool.false_or] at h1; unfold kh.fits at pG; have eX : (jJ tr).row t = r.row := by show (match tr.find t with | some r => r.row | none => none) = _; rw [hf]
   rw [eX] at pG
   cases hq : r.row with
   | none => rw [hq] at h1; cases h1
   | some q =>
     rw [hq] at h1 pG; have h1 : zD P t q = true := h1; have pG : pB q l = true := pG; unfold zD at h1
     split at h1
     · rename_i fs hu; rw [Bool.and_eq_true, Bool.and_eq_true, Bool.not_eq_true', Bool.not_eq_true'] at h1; have hfo : P.fieldsOf t = fs := by unfold Program.fieldsOf; rw [hu]
       refine ⟨run_eqGuard_agg w' op t ox oy us vs h1.2.1, ?_⟩; show (Op.equalIn (9999 + 1) t (.agg us) (.agg vs)).run P w' = .ok b w'; rw [run_equalIn_struct w' 9999 t us vs (by rw [hfo]; exact hu) h1.1, hfo]; exact yA (d := 9998) fs.toList 0 q l m h1.2.2 pG hc (by simpa using hl) (by simpa using hm)
     · cases h1
end Go.TM
namespace Go.TM
open Go Go.RowKit
def G4 (n : Nat) (ps : List AP) (x : aq (aw (ps.map some))) : St := aS (start n ps x) (some 0) (.one .dL)
def Kr (n : Nat) (r : RT) (xs : List (aq r)) (ps : List AP) (x : aq (aw (ps.map some))) : St := aS (start n ps x) (some 0) (.one (.nn r xs))
theorem G5 {P : Program} {tr : Tr} (hT : tr.all (tW P) = true) (hE : uf P (jJ tr)) (hm : P.follows .mixedOrders = true) {S : jC} (hS : lu P S) {D : jU} {f : FuncId} {fn : Func} {code : Code} {n : Nat} {r : RT} {qs : List AP} {rs : List RP}
   {L : l5 (aq (cn rs (bl (.val false [.shr r] :: qs))))} {t : aq (aw ((AP.val false [.shr r] :: qs).map some)) → Option (aq (cn rs (bl (.val false [.shr r] :: qs))))}
   (hf : P.funcs[f]? = some fn) (hb : fn.body = some code) (nT : Rg (jJ tr) D fn code n (.val false [.shr r] :: qs) rs = true) (G1 : (fn.name == "runtime.NumGoroutine") = false)
   (hL : ∀ (w0 : World) (mu : Mu) (y : aq (cn rs (bl (.val false [.shr r] :: qs)))), kX (.val false [.shr r] :: qs) mu → ∀ p ∈ dk code, ll P w0 mu n L y p.1 p.2)
   (NY : ∀ z, eC (jJ tr) S D L code (G4 n (.val false [.shr r] :: qs) (([] : List (aq r)), z)) (B3 rs (.val false [.shr r] :: qs)) = t (([] : List (aq r)), z))
   (hnn : ∀ x, eC (jJ tr) S D L code (Kr n r x.1 (.val false [.shr r] :: qs) x) (B3 rs (.val false [.shr r] :: qs)) = t x) : mF P f (j3 (.val false [.shr r] :: qs) rs t) := by
 unfold Rg at nT; rw [Bool.and_eq_true, Bool.and_eq_true, Bool.and_eq_true, Bool.and_eq_true] at nT; obtain ⟨h1, h2, h3, h4, h5⟩ := nT; refine ⟨GU (jE hT) hE hS hf hb (Nat.eq_of_beq_eq_true h1) (Nat.le_of_ble_eq_true h2) h3 (fun tm => vV tm _ _ h4) (fun w0 mu y hs => oS code (hL w0 mu y hs))
   (fun w0 mu => rS (jE hT) hE hm (oQ (jE hT) hE hS w0 mu n)) (qV code h5) (fun w0 mu c a w x hR hn => ?_), fn, hf, G1, by rw [hb]; rfl⟩
 have NA : 0 < n := by
   have := Nat.le_of_ble_eq_true h2; simp at this; omega
 have rM := hR.eL 0; have hg : bW (start n (.val false [.shr r] :: qs) x) 0 = .one (.shr r x.1) := rfl; rw [hg] at rM; have Bs : bL w c.ok (.sl r) (a.eval (.tmp 0)) x.1 := rM; have h0 : 0 < a.tmps.size := by omega
 by_cases hv : a.eval (.tmp 0) = .slice none 0 0
 · refine ⟨c, G4 n (.val false [.shr r] :: qs) x, ?_, ?_⟩
   · have := hR.aS (d := some 0) (v := .one .dL) (u := a.eval (.tmp 0)) hv (fun k e => by cases e; exact h0)
     rwa [BK a 0 _ h0 rfl] at this
   · have hx : x.1 = ([] : List (aq r)) := by
       rcases (mC _ _ _ _ _).1 Bs with ⟨_, h⟩ | ⟨_, _, h, _⟩
       · exact h
       · rw [hv] at h; cases h
     obtain ⟨x1, z⟩ := x; simp only at hx; subst hx; exact NY z
 · refine ⟨c, Kr n r x.1 (.val false [.shr r] :: qs) x, ?_, hnn x⟩; have := hR.aS (d := some 0) (v := .one (.nn r x.1)) (u := a.eval (.tmp 0)) ⟨Bs, hv⟩ (fun k e => by cases e; exact h0)
   rwa [BK a 0 _ h0 rfl] at this
end Go.TM
namespace Go.TM
open Go Go.RowKit
section
variable {R : Type} (T : kh) (S : jC) (D : jU) (L : l5 R)
noncomputable def G6 : Nat → Code → St → (St → Option R) → (Ex → St → Option R) → Option R
 | 0, _, st, g, _ => g st
 | n + 1, .seq a b, st, g, k => eC T S D L a st fun e aP => match e with
   | .normal => G6 n b aP g k
   | e => k e aP
 | _, _, _, _, _ => none
end
def Aq : Nat → Code → Code
 | 0, c => c
 | n + 1, .seq _ b => Aq n b
 | _, _ => .skip
theorem En {n : Nat} : (m : Nat) → (c : Code) → eQ n c = true → eQ n (Aq m c) = true
 | 0, _, h => h
 | m + 1, c, h => by
   cases c with
   | seq a b =>
     unfold eQ at h; rw [Bool.and_eq_true] at h; exact En m b h.2
   | _ => rfl
theorem Ar {ok : Nat → Code → Prop} : (m : Nat) → (c : Code) → dE ok c → dE ok (Aq m c)
 | 0, _, h => h
 | m + 1, c, h => by
   cases c with
   | seq a b => exact Ar m b h.2
   | _ => exact trivial
theorem Cl {ok : Nat → Array Oper → Prop} : (m : Nat) → (c : Code) → dS ok c → dS ok (Aq m c)
 | 0, _, h => h
 | m + 1, c, h => by
   cases c with
   | seq a b => exact Cl m b h.2
   | _ => exact trivial
theorem G7 {R : Type} {P : Program} {T : kh} {S : jC} {D : jU} {L : l5 R} {w0 : World} {mu : Mu} {n : Nat} {r : R} {ok : Nat → Array Oper → Prop} (Dj : qS P T S w0 mu n) (hD : pr R P T S D w0 mu n ok)
   {k : Ex → St → Option R} {Q : Exit → Act → World → Prop} (hk : Ka w0 mu n r k Q) {g : St → Option R} : (m : Nat) → (cd : Code) → eQ n cd = true → dE (ll P w0 mu n L r) cd → dS ok cd →
   (∀ {c : Cz} {st : St} {a : Act} {w : World}, Rel w0 mu c st a w → a.tmps.size = n → g st = some r → (Aq m cd).wp P Q a w) →
   {c : Cz} → {st : St} → {a : Act} → {w : World} → Rel w0 mu c st a w → a.tmps.size = n → G6 T S D L m cd st g k = some r → cd.wp P Q a w
 | 0, cd, _, _, _, hg, c, st, a, w, h, hn, hv => hg h hn hv
 | m + 1, cd, hd, hL, hw, hg, c, st, a, w, h, hn, hv => by
   cases cd with
   | seq x y =>
     have hv : (eC T S D L x st fun e aP => match e with
       | .normal => G6 T S D L m y aP g k
       | e => k e aP) = some r := hv
     unfold eQ at hd; rw [Bool.and_eq_true] at hd; refine wp_seq (x9 Dj hD x hd.1 hL.1 hw.1 (fun {e} {c} {st} {a} {w} h1 h2 h3 => ?_) h hn hv)
     cases e with
     | normal => exact G7 Dj hD hk m y hd.2 hL.2 hw.2 hg h1 h2 h3
     | exit m => exact hk h1 h2 h3
     | ret => exact hk h1 h2 h3
   | _ => have hv : (none : Option R) = some r := hv; cases hv
def Xj {R : Type} (P : Program) (w0 : World) (mu : Mu) (n : Nat) (k : Ex → St → Option R) (r : R) (b : Code) (hp : List (Option AP)) (g : aq (aw hp) → Option R) : Prop :=
 ∀ x, g x = some r → ∀ {Q : Exit → Act → World → Prop}, Ka w0 mu n r k Q → ∀ {c : Cz} {a : Act} {w : World}, Rel w0 mu c (mP hp x) a w → a.tmps.size = n → b.wp P Q a w
structure Xk (tr : Tr) (S : jC) (D : jU) (n : Nat) (ps : List AP) {R : Type} (L : l5 R) (k : Ex → St → Option R) (P : Program) (b : Code) (hp : List (Option AP)) (g : aq (aw hp) → Option R) : Prop where
 ok : ∀ (w0 : World) (mu : Mu) (r : R), kX ps mu → eQ n b = true → dS (fun id ops => Cc ops (D id) = true) b → dE (ll P w0 mu n L r) b → Xj P w0 mu n k r b hp g
theorem NZ {P : Program} {tr : Tr} (hT : tr.all (tW P) = true) (hE : uf P (jJ tr)) (hm : P.follows .mixedOrders = true) {S : jC} (hS : lu P S) {D : jU} {n : Nat} {ps : List AP} {R : Type} {L : l5 R} {k : Ex → St → Option R} {b : Code} {hp : List (Option AP)} {g : aq (aw hp) → Option R}
   (h : ∀ x, eC (jJ tr) S D L b (mP hp x) k = g x) : Xk tr S D n ps L k P b hp g :=
 ⟨fun w0 mu _ _ hd hw hL x hx _ hk _ _ _ hr hn => x9 (oQ (jE hT) hE hS w0 mu n) (rS (jE hT) hE hm (oQ (jE hT) hE hS w0 mu n)) b hd hL hw hk hr hn ((h x).trans hx)⟩
theorem G8 {P : Program} {tr : Tr} (hT : tr.all (tW P) = true) (hE : uf P (jJ tr)) (hm : P.follows .mixedOrders = true) {S : jC} (hS : lu P S) {D : jU} {f : FuncId} {fn : Func} {code b' : Code} {n m : Nat} {ps : List AP} {rs : List RP}
   {L : l5 (aq (cn rs (bl ps)))} {t : aq (aw (ps.map some)) → Option (aq (cn rs (bl ps)))} {jZ : List (Option AP)} {g' : aq (aw jZ) → Option (aq (cn rs (bl ps)))}
   (hf : P.funcs[f]? = some fn) (hb : fn.body = some code) (nT : Rg (jJ tr) D fn code n ps rs = true) (G1 : (fn.name == "runtime.NumGoroutine") = false)
   (hL : ∀ (w0 : World) (mu : Mu) (y : aq (cn rs (bl ps))), kX ps mu → ∀ p ∈ dk code, ll P w0 mu n L y p.1 p.2)
   (hr : Aq m code = b') (pG : fN ps jZ = true) (ID : ∀ x, G6 (jJ tr) S D L m code (start n ps x) (fun st => (Ca st jZ).bind g') (B3 rs ps) = t x)
   (hs : Xk tr S D n ps L (B3 rs ps) P b' jZ g') : mF P f (j3 ps rs t) := by
 unfold Rg at nT; rw [Bool.and_eq_true, Bool.and_eq_true, Bool.and_eq_true, Bool.and_eq_true] at nT; obtain ⟨h1, h2, h3, h4, h5⟩ := nT; refine ⟨fun c w mu lc dC args A y hH hA gW ho => ?_, fn, hf, G1, by rw [hb]; rfl⟩; unfold j3 at gW
 cases hx : eM ps dC with
 | none => rw [hx] at gW; cases gW
 | some x =>
   rw [hx] at gW; simp only [Option.some.injEq] at gW; subst gW; have Ba : t x = some y := ho; obtain ⟨A9, c', ZF, fF, B8, Kl, B7, Le, hR⟩ := GS hH hA hx (Nat.le_of_ble_eq_true h2); refine calls_of_wp hf hb ?_; have hn := Nat.eq_of_beq_eq_true h1; rw [hn]; have ki : (args ++ Array.replicate (n - args.size) undef).size = n := by
     have : args.size ≤ n := by
       have h6 := Nat.le_of_ble_eq_true h2; have h7 := (vT ps 0 dC args.toList hx hA).2.1; simp at h7; omega
     simp; omega
   have hlp := oS code (hL w A9 y B8); have hdr := qV code h5; refine G7 (oQ (jE hT) hE hS w A9 n) (rS (jE hT) hE hm (oQ (jE hT) hE hS w A9 n)) (k := B3 rs ps) (r := y) (fun {e} {c1} {zi} {a1} {w1} q1 q2 q3 => ?_) m code h3 hlp hdr (fun {c1} {zi} {a1} {w1} q1 q2 q3 => ?_) hR ki ((ID x).trans Ba)
   · obtain ⟨he, v, ns, c2, F0, hV, hX⟩ := IC (P := P) (jE hT) ZF fF q1 (vV a1.tmps _ _ h4) Le.symm (by rw [← B7]; simp) Kl q3; have BT : a1.defers = [] ∧ ∃ v, (results fn a1.tmps).run P w1 = .ok v w1 ∧ (∃ v', Ending.returned v = .returned v' ∧ ∃ c', zo w mu c' w1 ∧ pJ c' w1 (ft rs (bl ps) y).1 v' ∧ gO c' w1 lc 0 dC args.toList (lx ps (ft rs (bl ps) y).2)) :=
       ⟨q1.plain, v, ns, v, rfl, c2, F0, hV, hX⟩
     rcases he with rfl | rfl <;> exact BT
   · obtain ⟨z, hz, q4⟩ := Option.bind_eq_some_iff.1 q3; obtain ⟨c2, q5⟩ := Cb q1 B8 pG hz; rw [hr]; refine hs.ok w A9 y B8 (hr ▸ En m code h3) (hr ▸ Cl m code hdr) (hr ▸ Ar m code hlp) z q4 (fun {e} {c1} {zi} {a1} {w1} q1 q2 q3 => ?_) q5 q2; obtain ⟨he, v, ns, c2, F0, hV, hX⟩ := IC (P := P) (jE hT) ZF fF q1 (vV a1.tmps _ _ h4) Le.symm (by rw [← B7]; simp) Kl q3; have BT : a1.defers = [] ∧ ∃ v, (results fn a1.tmps).run P w1 = .ok v w1 ∧ (∃ v', Ending.returned v = .returned v' ∧ ∃ c', zo w mu c' w1 ∧ pJ c' w1 (ft rs (bl ps) y).1 v' ∧ gO c' w1 lc 0 dC args.toList (lx ps (ft rs (bl ps) y).2)) :=
       ⟨q1.plain, v, ns, v, rfl, c2, F0, hV, hX⟩
     rcases he with rfl | rfl <;> exact BT
end Go.TM
namespace Go.TM
open Go Go.RowKit
noncomputable section
structure TK (P : Program) where
 tr : Tr
 hT : tr.all (tW P) = true
 hE : uf P (jJ tr)
 hm : P.follows .mixedOrders = true
structure KF (P : Program) where
 f : FuncId
 m : Pm × Pm × Pm
 zU : ud
 ok : mF P f zU
def KF.sl {P : Program} (k : KF P) : Nat × (Pm × Pm × Pm × ud) := (k.f, (k.m.1, k.m.2.1, k.m.2.2, k.zU))
def SF {P : Program} : List (KF P) → SC
 | [] => []
 | k :: l => k.sl :: SF l
theorem Eo {P : Program} : (l : List (KF P)) → lu P (wP (SF l))
 | [] => NW
 | k :: l => Lp k.ok (Eo l)
def kw {P : Program} {f : FuncId} {s : ud} (h : mF P f s) : KF P := ⟨f, (.shr, .shr, .shr), s, h⟩
def kv {P : Program} (m : Pm × Pm × Pm) {f : FuncId} {s : ud} (h : mF P f s) : KF P := ⟨f, m, s, h⟩
structure LD where
 i : Nat
 b : Code
 hp : List (Option AP)
 e : List (Option AP)
 q : List (Option AP)
 r : aq (aw hp) → Option (Sum (aq (aw hp)) (Sum (aq (aw e)) (aq (aw q))))
def LD.Ok (l : LD) (P : Program) (n : Nat) (ps : List AP) : Prop :=
 ∀ {R : Type} (L : l5 R) (y : R) (w0 : World) (mu : Mu), (∀ st k, L l.i l.b st k = zB l.hp l.e l.q l.r st k) → kX ps mu → ll P w0 mu n L y l.i l.b
structure SG (P : Program) (n : Nat) (ps : List AP) where
 d : LD
 ok : d.Ok P n ps
def nw {P : Program} {n : Nat} {ps : List AP} {R : Type} : List (SG P n ps) → l5 R
 | [] => VZ
 | l :: ls => fun id b st k => bif Nat.beq id l.d.i then zB l.d.hp l.d.e l.d.q l.d.r st k else nw ls id b st k
def Cm {P : Program} {n : Nat} {ps : List AP} : List (SG P n ps) → List (Nat × Code)
 | [] => []
 | l :: ls => (l.d.i, l.d.b) :: Cm ls
def G9 {P : Program} {n : Nat} {ps : List AP} : List (SG P n ps) → Bool
 | [] => true
 | l :: ls => ls.all (fun m => !Nat.beq m.d.i l.d.i) && G9 ls
theorem N0 {P : Program} {n : Nat} {ps : List AP} {R : Type} : (ls : List (SG P n ps)) → G9 ls = true → ∀ l ∈ ls, ∀ st (k : Ex → St → Option R), nw ls l.d.i l.d.b st k = zB l.d.hp l.d.e l.d.q l.d.r st k
 | [], _, l, h => by cases h
 | m :: ls, hb, l, h => by
   intro st k; unfold G9 at hb; rw [Bool.and_eq_true] at hb; rcases List.mem_cons.1 h with rfl | h
   · show (bif Nat.beq l.d.i l.d.i then _ else _) = _; rw [Nat.beq_refl]; rfl
   · show (bif Nat.beq l.d.i m.d.i then _ else nw ls l.d.i l.d.b st k) = _; have := List.all_eq_true.1 hb.1 l h; rw [Bool.not_eq_true'] at this; rw [this]; exact N0 ls hb.2 l h st k
theorem Ks {P : Program} {n : Nat} {ps : List AP} : (ls : List (SG P n ps)) → ∀ p ∈ Cm ls, ∃ l ∈ ls, p = (l.d.i, l.d.b)
 | [], p, h => by cases h
 | m :: ls, p, h => by
   rcases List.mem_cons.1 h with rfl | h
   · exact ⟨m, List.mem_cons_self, rfl⟩
   · obtain ⟨l, h1, h2⟩ := Ks ls p h; exact ⟨l, List.mem_cons_of_mem _ h1, h2⟩
theorem Fe {P : Program} {n : Nat} {ps : List AP} {R : Type} {ls : List (SG P n ps)} (hb : G9 ls = true) {c : Code} (hc : dk c = Cm ls) (y : R) (w0 : World) (mu : Mu) (hs : kX ps mu) : ∀ p ∈ dk c, ll P w0 mu n (nw ls) y p.1 p.2 := by
 rw [hc]; intro p hp; obtain ⟨l, hl, rfl⟩ := Ks ls p hp; exact l.ok (nw ls) y w0 mu (N0 ls hb l hl) hs
structure FC (P : Program) where
 t : TK P
 l : List (KF P)
 D : jU
 fn : Func
 ps : List AP
abbrev FC.code {P : Program} (F : FC P) : Code := NV F.fn
abbrev FC.S {P : Program} (F : FC P) : jC := wP (SF F.l)
abbrev FC.T {P : Program} (F : FC P) : kh := jJ F.t.tr
abbrev FC.KL {P : Program} (F : FC P) : Type := SG P F.fn.ntmps F.ps
abbrev FC.Ok {P : Program} (F : FC P) (l : LD) : Prop := l.Ok P F.fn.ntmps F.ps
abbrev FC.fin {P : Program} (F : FC P) (rs : List RP) : Ex → St → Option (aq (cn rs (bl F.ps))) := B3 rs F.ps
def FC.lp {P : Program} (F : FC P) (j : Nat) : Code := Bb F.code j
theorem FC.kl {P : Program} (F : FC P) {l : LD} (ls : List F.KL) (h1 : (Ei F.D F.ps l.hp l.e l.q F.fn.ntmps l.b && G9 ls) = true) (h2 : dk l.b = Cm ls)
   (ht : ∀ x, eC F.T F.S F.D (nw ls) l.b (mP l.hp x) (zA l.i l.hp l.e l.q) = l.r x) : F.Ok l := by
 rw [Bool.and_eq_true] at h1; exact fun _ _ w0 mu hL hs => Lq F.t.hT F.t.hE F.t.hm (Eo F.l) hs h1.1 (fun z => Fe h1.2 h2 z w0 mu hs) ht hL
theorem FC.qw {P : Program} (F : FC P) {l : LD} (h : ∀ x, (Ei F.D F.ps l.hp l.e l.q F.fn.ntmps l.b && (dk l.b).isEmpty, eC F.T F.S F.D VZ l.b (mP l.hp x) (zA l.i l.hp l.e l.q)) = (true, l.r x)) : F.Ok l := by
 have h1 := congrArg Prod.fst (h (rF _)); have h1 : (Ei F.D F.ps l.hp l.e l.q F.fn.ntmps l.b && (dk l.b).isEmpty) = true := h1; rw [Bool.and_eq_true] at h1; have ht : ∀ x, eC F.T F.S F.D VZ l.b (mP l.hp x) (zA l.i l.hp l.e l.q) = l.r x := fun x => congrArg Prod.snd (h x)
 have g : F.Ok l := F.kl [] (by rw [h1.1]; rfl) (List.isEmpty_iff.1 h1.2) ht; exact @g
abbrev FC.aa7 {P : Program} (F : FC P) (rs : List RP) (t : P2 (aw (F.ps.map some)) (Option (aq (cn rs (bl F.ps))))) : ud := j3 F.ps rs (nP (aw (F.ps.map some)) t)
abbrev FC.Kn {P : Program} (F : FC P) (rs : List RP) (f : FuncId) (t : P2 (aw (F.ps.map some)) (Option (aq (cn rs (bl F.ps))))) : Prop := mF P f (F.aa7 rs t)
def FC.Ri {P : Program} (F : FC P) (rs : List RP) : Bool := F.fn.body.isSome && (Rg F.T F.D F.fn F.code F.fn.ntmps F.ps rs && !(F.fn.name == "runtime.NumGoroutine"))
theorem FC.IK {P : Program} {F : FC P} {rs : List RP} (h : F.Ri rs = true) : F.fn.body = some F.code ∧ Rg F.T F.D F.fn F.code F.fn.ntmps F.ps rs = true ∧ (F.fn.name == "runtime.NumGoroutine") = false := by
 unfold FC.Ri at h; rw [Bool.and_eq_true, Bool.and_eq_true, Bool.not_eq_true'] at h; obtain ⟨h1, h2, h3⟩ := h; refine ⟨?_, h2, h3⟩; obtain ⟨c, hc⟩ := Option.isSome_iff_exists.1 h1; unfold FC.code NV; rw [hc]
theorem FC.kf {P : Program} (F : FC P) {rs : List RP} {f : FuncId} {t : P2 (aw (F.ps.map some)) (Option (aq (cn rs (bl F.ps))))} (ls : List F.KL) (hf : P.funcs[f]? = some F.fn) (h1 : (F.Ri rs && G9 ls) = true) (h2 : dk F.code = Cm ls)
   (ht : ∀ x, eC F.T F.S F.D (nw ls) F.code (start F.fn.ntmps F.ps x) (F.fin rs) = nP (aw (F.ps.map some)) t x) : F.Kn rs f t := by
 rw [Bool.and_eq_true] at h1; obtain ⟨hb, hc, hn⟩ := F.IK h1.1; exact P3 F.t.hT F.t.hE F.t.hm (Eo F.l) (D := F.D) (L := nw ls) hf hb hc hn (fun w0 mu y hs => Fe h1.2 h2 y w0 mu hs) ht
theorem FC.qA {P : Program} (F : FC P) {rs : List RP} {f : FuncId} {t : P2 (aw (F.ps.map some)) (Option (aq (cn rs (bl F.ps))))} (hf : P.funcs[f]? = some F.fn)
   (h : ∀ x, (F.Ri rs && (dk F.code).isEmpty, eC F.T F.S F.D VZ F.code (start F.fn.ntmps F.ps x) (F.fin rs)) = (true, nP (aw (F.ps.map some)) t x)) : F.Kn rs f t := by
 have h1 := congrArg Prod.fst (h (rF _)); have h1 : (F.Ri rs && (dk F.code).isEmpty) = true := h1; rw [Bool.and_eq_true] at h1; exact F.kf [] hf (by rw [h1.1]; rfl) (List.isEmpty_iff.1 h1.2) fun x => congrArg Prod.snd (h x)
theorem FC.SH {P : Program} (F : FC P) {rs : List RP} {f : FuncId} {t : P2 (aw (F.ps.map some)) (Option (aq (cn rs (bl F.ps))))} (hf : P.funcs[f]? = some F.fn) (h1 : (F.Ri rs && (dk F.code).isEmpty) = true)
   (ht : ∀ x, eC F.T F.S F.D VZ F.code (start F.fn.ntmps F.ps x) (F.fin rs) = nP (aw (F.ps.map some)) t x) : F.Kn rs f t := by
 rw [Bool.and_eq_true] at h1; exact F.kf [] hf (by rw [h1.1]; rfl) (List.isEmpty_iff.1 h1.2) ht
theorem FC.kl1 {P : Program} (F : FC P) {l : LD} (h1 : (Ei F.D F.ps l.hp l.e l.q F.fn.ntmps l.b && (dk l.b).isEmpty) = true)
   (ht : ∀ x, eC F.T F.S F.D VZ l.b (mP l.hp x) (zA l.i l.hp l.e l.q) = l.r x) : F.Ok l := by
 rw [Bool.and_eq_true] at h1; have g : F.Ok l := F.kl [] (by rw [h1.1]; rfl) (List.isEmpty_iff.1 h1.2) ht; exact @g
theorem FC.kfn {P : Program} (F : FC P) {rs : List RP} {f : FuncId} {t : P2 (aw (F.ps.map some)) (Option (aq (cn rs (bl F.ps))))} (ls : List F.KL) (hf : P.funcs[f]? = some F.fn) (r : RT) (qs : List AP) (hq : F.ps = .val false [.shr r] :: qs) (h1 : (F.Ri rs && G9 ls) = true) (h2 : dk F.code = Cm ls)
   (h4 : ∀ x, eC F.T F.S F.D (nw ls) F.code (aS (start F.fn.ntmps F.ps (hq ▸ (([] : List (aq r)), x))) (some 0) (.one .dL)) (F.fin rs) = nP (aw (F.ps.map some)) t (hq ▸ (([] : List (aq r)), x)))
   (h5 : ∀ x, eC F.T F.S F.D (nw ls) F.code (aS (start F.fn.ntmps F.ps (hq ▸ x)) (some 0) (.one (.nn r x.1))) (F.fin rs) = nP (aw (F.ps.map some)) t (hq ▸ x)) : F.Kn rs f t := by
 rw [Bool.and_eq_true] at h1; obtain ⟨hb, hc, hn⟩ := F.IK h1.1; obtain ⟨tt, l, D, fn, ps⟩ := F; simp only at hq; subst hq; exact G5 tt.hT tt.hE tt.hm (Eo l) (D := D) (L := nw ls) hf hb hc hn (fun w0 mu y hs => Fe h1.2 h2 y w0 mu hs) h4 h5
theorem FC.Xl {P : Program} (F : FC P) (ls : List F.KL) {R : Type} {k : Ex → St → Option R} {b : Code} {hp : List (Option AP)} {g : aq (aw hp) → Option R} (h : ∀ x, eC F.T F.S F.D (nw ls) b (mP hp x) k = g x) : Xk F.t.tr F.S F.D F.fn.ntmps F.ps (nw ls) k P b hp g :=
 NZ F.t.hT F.t.hE F.t.hm (Eo F.l) h
theorem FC.aa9 {P : Program} (F : FC P) (ls : List F.KL) {rs : List RP} {f : FuncId} {t : P2 (aw (F.ps.map some)) (Option (aq (cn rs (bl F.ps))))} (hf : P.funcs[f]? = some F.fn) (m : Nat) {b' : Code} {jZ : List (Option AP)} {g' : aq (aw jZ) → Option (aq (cn rs (bl F.ps)))} (hs : Xk F.t.tr F.S F.D F.fn.ntmps F.ps (nw ls) (F.fin rs) P b' jZ g')
   (h1 : (F.Ri rs && (G9 ls && fN F.ps jZ)) = true) (h2 : dk F.code = Cm ls) (hr : Aq m F.code = b') (ht : ∀ x, G6 F.T F.S F.D (nw ls) m F.code (start F.fn.ntmps F.ps x) (fun st => (Ca st jZ).bind g') (F.fin rs) = nP (aw (F.ps.map some)) t x) : F.Kn rs f t := by
 rw [Bool.and_eq_true, Bool.and_eq_true] at h1; obtain ⟨hb, hc, hn⟩ := F.IK h1.1; exact G8 F.t.hT F.t.hE F.t.hm (Eo F.l) (D := F.D) (L := nw ls) hf hb hc hn (fun w0 mu y hs => Fe h1.2.1 h2 y w0 mu hs) hr h1.2.2 ht hs
def sp : List (Nat × AP) → Nat → List (Option AP)
 | [], k => nn k
 | (g, p) :: l, k => nn g ++ some p :: sp l k
abbrev vl (l : List OP) : AP := .val false l
abbrev va (l : List OP) : AP := .val true l
abbrev Pl.a (i : Nat) (p : Pl) : Pl := .op i .any p
abbrev Pl.t (i : Nat) (p : Pl) : Pl := .op i .take p
abbrev Pl.o (i : Nat) (p : Pl) : Pl := .op i .one p
abbrev Pl.l (i : Nat) (p : Pl) : Pl := .op i .last p
def dr (i : Nat) (p : Pl) (D : jU := kE) : jU := fun id => bif Nat.beq id i then p else D id
end
end Go.TM
