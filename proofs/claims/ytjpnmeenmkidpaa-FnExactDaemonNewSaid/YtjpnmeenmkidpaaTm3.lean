/- A machine over trees: an evaluator of the code, and that what it finds is so; part 3. -/
import Derived.Test.YtjpnmeenmkidpaaTm2
import Derived.KernelRfl
import Derived.Carry
import Derived.ChangeArms
import Derived.ChangeOld
import Derived.OpenShut
import Derived.Laws.StructEq
import Derived.ChangeKeysEq
set_option linter.unusedSimpArgs false
set_option linter.unusedVariables false
/- The tree machine, part 39: regions of open order (II): by one order that is given. -/
namespace Go.TM
open Go Go.RowKit

def memB (i : Nat) : List Nat → Bool
  | [] => false
  | x :: l => Nat.beq x i || memB i l

/-- May it come up? -/
def upB (ops : List Oper) (ls : List Nat) (j : Nat) : Bool :=
  match nth ops j with
  | some o => !memB j ls && o.after.toList.all fun e => !Region.binds .any e || memB e.on ls
  | none => false

/-- The others wait for it, or have nothing to do with it. -/
def freeB (ops : Array Oper) (opl : List Oper) (n : Nat) (ls : List Nat) (i : Nat) : Bool :=
  match nth opl i with
  | some oi => (List.range n).all fun j => Nat.beq j i || (memB j ls || match nth opl j with
    | some oj => (oj.after.toList.any fun e => Region.binds .any e && Nat.beq e.on i) || oi.apart ops oj
    | none => true)
  | none => false

/-- No other may come up. -/
def aloneB (opl : List Oper) (n : Nat) (ls : List Nat) (i : Nat) : Bool := (List.range n).all fun j => Nat.beq j i || !upB opl ls j

/-- Which come up first. -/
def Pl.heads : Pl → List Nat
  | .nil => []
  | .op i _ _ => [i]
  | .alt p q => p.heads ++ q.heads

/-- All that may come up are among them. -/
def coverB (opl : List Oper) (n : Nat) (ls hs : List Nat) : Bool := (List.range n).all fun j => !upB opl ls j || memB j hs

/-- 'al': one of more that may come up first. -/
def drawB (ops : Array Oper) (opl : List Oper) (n : Nat) (ds : List Nat) : Bool → List Nat → Pl → Bool
  | al, ls, .nil => !al && (List.range n).all fun j => !upB opl ls j
  | al, ls, .op i kd r => upB opl ls i && ((match kd with
      | .any => !al && freeB ops opl n ls i
      | .take => !al && (freeB ops opl n ls i && ds.all fun d => memB d ls || reachB .any ops i n d)
      | .one => al || aloneB opl n ls i
      | .last => (al || aloneB opl n ls i) && memB i ds) && drawB ops opl n ds false (i :: ls) r)
  | al, ls, .alt p q => (al || coverB opl n ls (p.heads ++ q.heads)) && (drawB ops opl n ds true ls p && drawB ops opl n ds true ls q)

def lasts : Pl → List Nat
  | .nil => []
  | .op i .last l => i :: lasts l
  | .op _ _ l => lasts l
  | .alt p q => lasts p ++ lasts q
def Pl.depth : Pl → Nat
  | .nil => 0
  | .op _ _ l => l.depth + 1
  | .alt p q => Nat.max p.depth q.depth

/-- Orders that will do. -/
def drawOk (ops : Array Oper) (l : Pl) : Bool :=
  Region.noSelect ops && (Nat.ble l.depth ops.size && drawB ops ops.toList ops.size (lasts l) false [] l)

/-- What is listed, as a list. -/
structure Lst (n : Nat) (ls : List Nat) (listed : Array Bool) : Prop where
  size : listed.size = n
  gf : ∀ j, listed.getD j false = memB j ls
  gt : ∀ j, listed.getD j true = (memB j ls || decide (n ≤ j))

theorem Lst.push {n : Nat} {ls : List Nat} {listed : Array Bool} (h : Lst n ls listed) {i : Nat} (hi : i < n) : Lst n (i :: ls) (listed.setIfInBounds i true) where
  size := by simp [h.size]
  gf := fun j => by
    unfold memB
    by_cases e : i = j
    · subst e
      have : Nat.beq i i = true := Nat.beq_refl i
      rw [this]
      simp [h.size, hi]
    · rw [getD_set_ne false e, h.gf j]
      have : Nat.beq i j = false := by
        cases hq : Nat.beq i j
        · rfl
        · exact absurd (Nat.eq_of_beq_eq_true hq) e
      simp [this]
  gt := fun j => by
    unfold memB
    by_cases e : i = j
    · subst e
      simp [h.size, hi]
    · rw [getD_set_ne true e, h.gt j]
      have : Nat.beq i j = false := by
        cases hq : Nat.beq i j
        · rfl
        · exact absurd (Nat.eq_of_beq_eq_true hq) e
      simp [this]

theorem Lst.none (n : Nat) : Lst n [] (Array.replicate n false) where
  size := by simp
  gf := fun j => by
    simp only [Array.getD_eq_getD_getElem?, Array.getElem?_replicate, memB]
    split <;> rfl
  gt := fun j => by
    simp only [Array.getD_eq_getD_getElem?, Array.getElem?_replicate, memB]
    split
    · rename_i h; simp; omega
    · rename_i h; simp; omega

theorem upB_iff {ops : Array Oper} {ls : List Nat} {listed : Array Bool} (h : Lst ops.size ls listed) (j : Nat) : upB ops.toList ls j = true ↔ j ∈ Region.ready .any ops listed := by
  rw [mem_ready]
  unfold upB
  rw [nth_eq, Array.getElem?_toList, h.gt j]
  cases ho : ops[j]? with
  | none => simp
  | some o =>
    have hlt : j < ops.size := (Array.getElem?_eq_some_iff.1 ho).1
    have hn : decide (ops.size ≤ j) = false := by simp; omega
    simp only [hn, Bool.or_false, Bool.and_eq_true, Bool.not_eq_true', List.all_eq_true, Array.mem_toList_iff, Bool.or_eq_true, Option.some.injEq, exists_eq_left', h.gf]
    constructor
    · rintro ⟨h0, h1⟩
      exact ⟨h0, fun e he hb => (h1 e he).resolve_left (by simp [hb])⟩
    · rintro ⟨h0, h1⟩
      refine ⟨h0, fun e he => ?_⟩
      cases hb : Region.binds .any e
      · exact .inl rfl
      · exact .inr (h1 e he hb)

theorem beq_of_ne {i j : Nat} (h : i ≠ j) : Nat.beq i j = false := by
  cases hq : Nat.beq i j
  · rfl
  · exact absurd (Nat.eq_of_beq_eq_true hq) h

theorem freeB_spec {ops : Array Oper} {ls : List Nat} {listed : Array Bool} (h : Lst ops.size ls listed) {i : Nat} {oi : Oper} (hi : ops[i]? = some oi) (hf : freeB ops ops.toList ops.size ls i = true) :
    ∀ j oj, ops[j]? = some oj → j ≠ i → listed.getD j true = false → (∀ e ∈ oj.after, Region.binds .any e = true → e.on ≠ i) → oi.apart ops oj = true := by
  intro j oj hj hji hun hno
  unfold freeB at hf
  rw [nth_eq, Array.getElem?_toList, hi] at hf
  have hlt : j < ops.size := (Array.getElem?_eq_some_iff.1 hj).1
  have h1 := List.all_eq_true.1 hf j (List.mem_range.2 hlt)
  rw [nth_eq, Array.getElem?_toList, hj, beq_of_ne hji, Bool.false_or] at h1
  rw [h.gt j, Bool.or_eq_false_iff] at hun
  rw [hun.1, Bool.false_or, Bool.or_eq_true] at h1
  rcases h1 with h1 | h1
  · obtain ⟨e, he, h2⟩ := List.any_eq_true.1 h1
    rw [Bool.and_eq_true] at h2
    exact absurd (Nat.eq_of_beq_eq_true h2.2) (hno e (Array.mem_toList_iff.1 he) h2.1)
  · exact h1

theorem aloneB_spec {ops : Array Oper} {ls : List Nat} {listed : Array Bool} (h : Lst ops.size ls listed) {i : Nat} (hf : aloneB ops.toList ops.size ls i = true) : ∀ j ∈ Region.ready .any ops listed, j = i := by
  intro j hj
  have hlt : j < ops.size := by
    obtain ⟨_, o, ho, _⟩ := mem_ready.1 hj
    exact (Array.getElem?_eq_some_iff.1 ho).1
  have h1 := List.all_eq_true.1 hf j (List.mem_range.2 hlt)
  rw [(upB_iff h j).2 hj, Bool.not_true, Bool.or_false] at h1
  exact Nat.eq_of_beq_eq_true h1

/-- A guard ahead of an operation that yields in all worlds of a kind. -/
theorem guard_yields {P : Program} {T : Tab} {S : Sems} {w0 : World} {mu : Mu} {c : Cz} {st st' : St} {a : Act} {w : World} {ops : Array Oper} {o : Oper} {C : World → Prop} (h : Rel w0 mu c st a w)
    (hd : ∀ k, o.dst = some k → k < a.tmps.size) (hv : (guardN T S ops.toList st o).val = some st')
    (base : (opN T S st o).val = some st' → ∃ v, (∀ w' : World, C w' → (execOp a.eval o).run P w' = .ok (.value v) w') ∧ Rel w0 mu c st' (a.put o.dst v) w) :
    ∃ v, YieldsIf P ops C o v a ∧ Rel w0 mu c st' (a.put o.dst v) w := by
  unfold guardN at hv
  unfold YieldsIf Region.wanted
  cases hg : o.guard with
  | none =>
    simp only [hg] at hv ⊢
    obtain ⟨v, h1, h2⟩ := base hv
    exact ⟨v, .inl ⟨trivial, h1⟩, h2⟩
  | some p =>
    obtain ⟨j, want⟩ := p
    simp only [hg] at hv ⊢
    cases hj : (nth ops.toList j).bind (·.dst) with
    | none => simp [hj, N.val] at hv
    | some d =>
      simp only [hj] at hv
      split at hv
      · rename_i b hgv
        obtain ⟨h1, h2⟩ := bool_slot h hgv
        rw [yielded_of (ops := ops) hj h1 h2]
        have yes : (opN T S (TM.setV st (some d) (.one (.bool b))) o).val = some st' → ∃ v, (∀ w' : World, C w' → (execOp a.eval o).run P w' = .ok (.value v) w') ∧ Rel w0 mu c st' (a.put o.dst v) w := fun e => base (by rwa [setV_self st d hgv] at e)
        have no : (N.done (TM.setV (TM.setV st (some d) (.one (.bool b))) o.dst (.tup []))).val = some st' → Rel w0 mu c st' (a.put o.dst undef) w := by
          intro e
          simp only [N.val, Option.some.injEq] at e
          subst e
          rw [setV_self st d hgv]
          exact h.setV (rel_undef _ _ _) hd
        rcases brN_some hv with ⟨hb, hv1⟩ | ⟨hb, hv1⟩
        · subst hb
          cases want
          · exact ⟨undef, .inr ⟨rfl, rfl⟩, no hv1⟩
          · obtain ⟨v, h3, h4⟩ := yes hv1
            exact ⟨v, .inl ⟨rfl, h3⟩, h4⟩
        · subst hb
          cases want
          · obtain ⟨v, h3, h4⟩ := yes hv1
            exact ⟨v, .inl ⟨rfl, h3⟩, h4⟩
          · exact ⟨undef, .inr ⟨rfl, rfl⟩, no hv1⟩
      · rename_i hgv
        simp only [N.val, Option.some.injEq] at hv
        subst hv
        rw [yielded_undef (ops := ops) hj (slot_undef h hgv)]
        exact ⟨undef, .inr ⟨by cases want <;> rfl, rfl⟩, h.setV (rel_undef _ _ _) hd⟩
      · simp [N.val] at hv

theorem take_ok {P : Program} {T : Tab} (hT : TabOk P T) {S : Sems} {w0 : World} {mu : Mu} {c : Cz} {st : St} {a : Act} {w : World} (h : Rel w0 mu c st a w) {o : Oper} (hk : kindOk S st o .take = true)
    {st' : St} (hv : (opN T S st o).val = some st') (hd : ∀ k, o.dst = some k → k < a.tmps.size) : ∃ v, (∀ w' : World, Keep w w' → (execOp a.eval o).run P w' = .ok (.value v) w') ∧ Rel w0 mu c st' (a.put o.dst v) w := by
  unfold kindOk at hk
  unfold opN at hv
  cases ho : o.op with
  | load t x =>
    simp only [ho] at hv
    obtain ⟨v, h1, h2⟩ := loadN_ok hT h (opd_rel h x) hv hd
    exact ⟨v, fun w' hw => by simp only [execOp, ho]; exact run_v (h1 w' hw), h2⟩
  | _ => simp [ho] at hk

theorem memB_mem {i : Nat} : (l : List Nat) → memB i l = true → i ∈ l
  | [], h => by cases h
  | x :: l, h => by
    unfold memB at h
    rw [Bool.or_eq_true] at h
    rcases h with h | h
    · rw [Nat.eq_of_beq_eq_true h]; exact List.mem_cons_self
    · exact List.mem_cons_of_mem _ (memB_mem l h)

theorem drawn_ok {R : Type} {P : Program} {T : Tab} (hT : TabOk P T) (hE : EqOk P T) {S : Sems} {w0 : World} {mu : Mu} {n : Nat} (hop : OpSound P T S w0 mu n) {ops : Array Oper} {ds : List Nat} {Q : Exit → Act → World → Prop} (hQ : ∀ c a w, ¬ Q (.panic c) a w)
    {k : St → Option R} {r : R} (hk : Next w0 mu n r k (Q .normal)) (hns : Region.noSelect ops = true) (hdst : dstsOk n ops.toList = true) :
    (l : Pl) → (ls : List Nat) → (listed : Array Bool) → (fuel : Nat) → {c : Cz} → {st : St} → {a : Act} → {w : World} → Lst ops.size ls listed → ShutUp .any ops listed → l.depth ≤ fuel →
      Rel w0 mu c st a w → a.tmps.size = n → drawnK T S ops.toList l st k = some r →
      (drawB ops ops.toList ops.size ds false ls l = true → wpAnyK P .any ops Q ds fuel listed a w) ∧
      (drawB ops ops.toList ops.size ds true ls l = true → ∃ fuel', fuel = fuel' + 1 ∧ ∀ i ∈ l.heads, i ∈ Region.ready .any ops listed ∧ wpOp P ops Q i (fun a' w' => (i ∉ ds → Keep w w') ∧ wpAnyK P .any ops Q ds fuel' (listed.setIfInBounds i true) a' w') a w)
  | .nil, ls, listed, fuel, c, st, a, w, hl, _, _, h, hn, hv => by
    refine ⟨fun hb => ?_, fun hb => by simp [drawB] at hb⟩
    unfold drawB at hb
    rw [Bool.and_eq_true] at hb
    have hr : Region.ready .any ops listed = [] := by
      refine List.eq_nil_iff_forall_not_mem.2 fun j hj => ?_
      obtain ⟨_, o, ho, _⟩ := mem_ready.1 hj
      have hlt : j < ops.size := (Array.getElem?_eq_some_iff.1 ho).1
      have h1 := List.all_eq_true.1 hb.2 j (List.mem_range.2 hlt)
      rw [(upB_iff hl j).2 hj] at h1
      cases h1
    have hq := hk h hn hv
    cases fuel with
    | zero => exact ⟨hr, hq⟩
    | succ fuel => exact ⟨fun _ => hq, fun i hi => by rw [hr] at hi; cases hi⟩
  | .op i kd l, ls, listed, 0, c, st, a, w, hl, _, hf, h, hn, hv => absurd hf (by simp [Pl.depth])
  | .op i kd l, ls, listed, fuel + 1, c, st, a, w, hl, hs, hf, h, hn, hv => by
    have hf : l.depth ≤ fuel := Nat.le_of_succ_le_succ hf
    have first : ∀ al, drawB ops ops.toList ops.size ds al ls (.op i kd l) = true → upB ops.toList ls i = true ∧ drawB ops ops.toList ops.size ds false (i :: ls) l = true := by
      intro al hb
      unfold drawB at hb
      rw [Bool.and_eq_true, Bool.and_eq_true] at hb
      exact ⟨hb.1, hb.2.2⟩
    -- what an operation does that comes up first
    have step : upB ops.toList ls i = true → drawB ops ops.toList ops.size ds false (i :: ls) l = true → (kd = .one ∨ i ∈ ds) → wpOp P ops Q i (fun a' w' => (i ∉ ds → Keep w w') ∧ wpAnyK P .any ops Q ds fuel (listed.setIfInBounds i true) a' w') a w := by
      intro hup hrest hds
      have hir := (upB_iff hl i).1 hup
      obtain ⟨_, o, hoi, _⟩ := mem_ready.1 hir
      have hlt : i < ops.size := (Array.getElem?_eq_some_iff.1 hoi).1
      unfold drawnK at hv
      rw [nth_eq, Array.getElem?_toList, hoi] at hv
      obtain ⟨hkk, hv⟩ := bif_some hv
      rw [N.fold_eq] at hv
      obtain ⟨st', h1, h2⟩ := Option.bind_eq_some_iff.1 hv
      have hd' : ∀ k, o.dst = some k → k < a.tmps.size := fun k hk => by rw [hn]; exact dstsOk_of hdst (by rw [Array.mem_toList_iff]; exact Array.mem_of_getElem? hoi) k hk
      have next : ∀ {c' : Cz} {a' : Act} {w' : World}, Rel w0 mu c' st' a' w' → a'.tmps.size = n → wpAnyK P .any ops Q ds fuel (listed.setIfInBounds i true) a' w' := fun hr hn' =>
        (drawn_ok hT hE hop hQ hk hns hdst l (i :: ls) _ fuel (hl.push hlt) (hs.set hir) hf hr hn' h2).1 hrest
      have hko : kd = .one → kindOk S st o .one = true := fun e => by rw [e] at hkk; exact hkk
      unfold wpOp
      rw [hoi]
      rcases guard_ok hop h hn (fun k hk => by rw [← hn]; exact hd' k hk) h1 with ⟨hw, hst⟩ | ⟨hw, hrel⟩
      · simp only [hw, if_true]
        refine .inl (Oper.wp_mono (fun a' w' ⟨⟨c', hr, hsz⟩, hkp⟩ => ⟨fun hnd => ?_, next hr (hsz.trans hn)⟩) (hst Q))
        rcases hds with e | e
        · exact hkp (hko e)
        · exact absurd e hnd
      · simp only [hw, Bool.false_eq_true, if_false]
        exact ⟨fun _ => Keep.refl w, next hrel ((put_size _ _ _).trans hn)⟩
    refine ⟨fun hb => ?_, fun hb => ⟨fuel, rfl, fun j hj => ?_⟩⟩
    · obtain ⟨hup, hrest⟩ := first _ hb
      have hir := (upB_iff hl i).1 hup
      unfold drawB at hb
      rw [Bool.and_eq_true, Bool.and_eq_true] at hb
      obtain ⟨_, hkd, _⟩ := hb
      have alone : aloneB ops.toList ops.size ls i = true → (kd = .one ∨ i ∈ ds) → wpAnyK P .any ops Q ds (fuel + 1) listed a w := by
        intro hal hds
        refine ⟨fun e => absurd hir (by rw [e]; exact List.not_mem_nil), fun j hj => ?_⟩
        have := aloneB_spec hl hal j hj
        subst this
        exact step hup hrest hds
      obtain ⟨_, o, hoi, _⟩ := mem_ready.1 hir
      have hlt : i < ops.size := (Array.getElem?_eq_some_iff.1 hoi).1
      unfold drawnK at hv
      rw [nth_eq, Array.getElem?_toList, hoi] at hv
      obtain ⟨hkk, hv⟩ := bif_some hv
      rw [N.fold_eq] at hv
      obtain ⟨st', h1, h2⟩ := Option.bind_eq_some_iff.1 hv
      have hd' : ∀ k, o.dst = some k → k < a.tmps.size := fun k hk => by rw [hn]; exact dstsOk_of hdst (by rw [Array.mem_toList_iff]; exact Array.mem_of_getElem? hoi) k hk
      have next : ∀ {c' : Cz} {a' : Act} {w' : World}, Rel w0 mu c' st' a' w' → a'.tmps.size = n → wpAnyK P .any ops Q ds fuel (listed.setIfInBounds i true) a' w' := fun hr hn' =>
        (drawn_ok hT hE hop hQ hk hns hdst l (i :: ls) _ fuel (hl.push hlt) (hs.set hir) hf hr hn' h2).1 hrest
      have hsel := Region.noSelect_spec hns
      cases kd with
      | one => exact alone (by simpa using hkd) (.inl rfl)
      | last =>
        simp only [Bool.false_or, Bool.and_eq_true] at hkd
        exact alone hkd.1 (.inr (memB_mem ds hkd.2))
      | any =>
        simp only [Bool.not_false, Bool.true_and] at hkd
        obtain ⟨v, hy, hrel⟩ := guard_yields (P := P) (ops := ops) (C := fun _ => True) h hd' h1 (fun e => by
          obtain ⟨v, g1, g2⟩ := pure_ok hT hE h hkk e hd'
          exact ⟨v, fun w' _ => g1 w', g2⟩)
        refine wpAnyK_any hoi hsel (fun c a w hq => absurd hq (hQ _ _ _)) fuel listed a w (freeB_spec hl hoi hkd) hir ?_ (next hrel ((put_size _ _ _).trans hn))
        rcases hy with ⟨g1, g2⟩ | g
        · exact .inl ⟨g1, fun w' => g2 w' trivial⟩
        · exact .inr g
      | take =>
        simp only [Bool.not_false, Bool.true_and, Bool.and_eq_true] at hkd
        obtain ⟨v, hy, hrel⟩ := guard_yields (P := P) (ops := ops) (C := Keep w) h hd' h1 (fun e => take_ok hT h hkk e hd')
        refine wpAnyK_first hoi hsel (fun c a w hq => absurd hq (hQ _ _ _)) ops.size fuel listed a w (freeB_spec hl hoi hkd.1) hs (fun d hm hun => ?_) hir hy (Keep.refl w) (next hrel ((put_size _ _ _).trans hn))
        have h3 := List.all_eq_true.1 hkd.2 d hm
        rw [hl.gt d, Bool.or_eq_false_iff] at hun
        rw [hun.1, Bool.false_or] at h3
        exact h3
    · have hj : j = i := by simpa [Pl.heads] using hj
      subst hj
      obtain ⟨hup, hrest⟩ := first _ hb
      refine ⟨(upB_iff hl j).1 hup, step hup hrest ?_⟩
      unfold drawB at hb
      rw [Bool.and_eq_true, Bool.and_eq_true] at hb
      obtain ⟨_, hkd, _⟩ := hb
      cases kd with
      | one => exact .inl rfl
      | last =>
        simp only [Bool.true_or, Bool.true_and] at hkd
        exact .inr (memB_mem ds hkd)
      | any => simp at hkd
      | take => simp at hkd
  | .alt p q, ls, listed, fuel, c, st, a, w, hl, hs, hf, h, hn, hv => by
    have hv : both (drawnK T S ops.toList p st k) (drawnK T S ops.toList q st k) = some r := hv
    obtain ⟨hv1, hv2⟩ := both_some hv
    have hf : Nat.max p.depth q.depth ≤ fuel := hf
    have hp := (drawn_ok (ds := ds) hT hE hop hQ hk hns hdst p ls listed fuel hl hs (Nat.le_trans (Nat.le_max_left _ _) hf) h hn hv1).2
    have hq := (drawn_ok (ds := ds) hT hE hop hQ hk hns hdst q ls listed fuel hl hs (Nat.le_trans (Nat.le_max_right _ _) hf) h hn hv2).2
    have heads : drawB ops ops.toList ops.size ds true ls p = true → drawB ops ops.toList ops.size ds true ls q = true → ∃ fuel', fuel = fuel' + 1 ∧ ∀ i ∈ p.heads ++ q.heads, i ∈ Region.ready .any ops listed ∧ wpOp P ops Q i (fun a' w' => (i ∉ ds → Keep w w') ∧ wpAnyK P .any ops Q ds fuel' (listed.setIfInBounds i true) a' w') a w := by
      intro h1 h2
      obtain ⟨f1, e1, g1⟩ := hp h1
      obtain ⟨f2, e2, g2⟩ := hq h2
      have : f1 = f2 := by omega
      subst this
      exact ⟨f1, e1, fun i hi => (List.mem_append.1 hi).elim (g1 i) (g2 i)⟩
    have parts : ∀ al, drawB ops ops.toList ops.size ds al ls (.alt p q) = true → (al || coverB ops.toList ops.size ls (p.heads ++ q.heads)) = true ∧ drawB ops ops.toList ops.size ds true ls p = true ∧ drawB ops ops.toList ops.size ds true ls q = true := by
      intro al hb
      unfold drawB at hb
      rw [Bool.and_eq_true, Bool.and_eq_true] at hb
      exact hb
    refine ⟨fun hb => ?_, fun hb => ?_⟩
    · obtain ⟨hc, h1, h2⟩ := parts _ hb
      obtain ⟨f, rfl, g⟩ := heads h1 h2
      have hcov : ∀ j ∈ Region.ready .any ops listed, j ∈ p.heads ++ q.heads := by
        intro j hj
        have hlt : j < ops.size := by
          obtain ⟨_, o, ho, _⟩ := mem_ready.1 hj
          exact (Array.getElem?_eq_some_iff.1 ho).1
        rw [Bool.false_or] at hc
        have h1 := List.all_eq_true.1 hc j (List.mem_range.2 hlt)
        rw [(upB_iff hl j).2 hj, Bool.not_true, Bool.false_or] at h1
        exact memB_mem _ h1
      refine ⟨fun e => ?_, fun j hj => (g j (hcov j hj)).2⟩
      have hne : ∃ i, i ∈ p.heads ++ q.heads := by
        have key : ∀ (l : Pl), drawB ops ops.toList ops.size ds true ls l = true → ∃ i, i ∈ l.heads := by
          intro l
          induction l with
          | nil => intro h; simp [drawB] at h
          | op i _ _ _ => intro _; exact ⟨i, by simp [Pl.heads]⟩
          | alt p q ih _ =>
            intro h
            unfold drawB at h
            rw [Bool.and_eq_true, Bool.and_eq_true] at h
            obtain ⟨i, hi⟩ := ih h.2.1
            exact ⟨i, List.mem_append_left _ hi⟩
        obtain ⟨i, hi⟩ := key p h1
        exact ⟨i, List.mem_append_left _ hi⟩
      obtain ⟨i, hi⟩ := hne
      have := (g i hi).1
      rw [e] at this
      cases this
    · obtain ⟨_, h1, h2⟩ := parts _ hb
      exact heads h1 h2

/-- Regions of open order. -/
theorem drawSound {R : Type} {P : Program} {T : Tab} (hT : TabOk P T) (hE : EqOk P T) (hm : P.follows .mixedOrders = true) {S : Sems} {D : Draws} {w0 : World} {mu : Mu} {n : Nat} (hop : OpSound P T S w0 mu n) :
    DrawSound R P T S D w0 mu n (fun id ops => drawOk ops (D id) = true) := by
  intro id ops Q k r hok hdst hk c st a w h hn hv
  unfold drawOk at hok
  rw [Bool.and_eq_true, Bool.and_eq_true] at hok
  obtain ⟨hns, hlen, hb⟩ := hok
  let Q' : Exit → Act → World → Prop := fun e a w => e = .normal ∧ Q .normal a w
  have key : (Code.region id ops true).wp P Q' a w := by
    refine wp_region_any hm (wpAny_of_keep _ _ _ _ ((drawn_ok hT hE hop (ds := lasts (D id)) (Q := Q') (fun c a w hq => by cases hq.1) (fun {c st a w} g1 g2 g3 => ⟨rfl, hk g1 g2 g3⟩) hns hdst (D id) [] _ ops.size (Lst.none _) (ShutUp.none _ _ _) (Nat.le_of_ble_eq_true hlen) h.drew hn hv).1 hb))
  exact Code.wp_mono (fun e a w hq => by obtain ⟨rfl, hq⟩ := hq; exact hq) key

end Go.TM

/- The tree machine, part 40: the table of a program's types, checked. -/
namespace Go.TM
open Go Go.RowKit

/-- What is noted of one type. -/
structure Rec where
  size : Nat
  agg : Bool
  places : List (Nat × Nat)
  row : Option RT
  elem : Option (RT × Nat)
  kind : Option Ty
  ones : List Nat
  eq : Bool

inductive Tr where
  | leaf
  | node (l : Tr) (k : Nat) (v : Rec) (r : Tr)

def Tr.find : Tr → Nat → Option Rec
  | .leaf, _ => none
  | .node l k v r, t => bif Nat.beq t k then some v else bif Nat.blt t k then l.find t else r.find t

def Tr.all (p : Nat → Rec → Bool) : Tr → Bool
  | .leaf => true
  | .node l k v r => l.all p && (p k v && r.all p)

theorem Tr.all_find {p : Nat → Rec → Bool} : (tr : Tr) → tr.all p = true → ∀ {t v}, tr.find t = some v → p t v = true
  | .leaf, _, _, _, h => by cases h
  | .node l k v r, h, t, u, hf => by
    unfold Tr.all at h
    rw [Bool.and_eq_true, Bool.and_eq_true] at h
    unfold Tr.find at hf
    cases hb : Nat.beq t k with
    | true =>
      rw [hb] at hf
      injection hf with hf
      subst hf
      rw [Nat.eq_of_beq_eq_true hb]
      exact h.2.1
    | false =>
      rw [hb] at hf
      cases hl : Nat.blt t k with
      | true => rw [hl] at hf; exact Tr.all_find l h.1 hf
      | false => rw [hl] at hf; exact Tr.all_find r h.2.2 hf

def tabOf (tr : Tr) : Tab where
  cells t := (tr.find t).map (·.size)
  agg t := match tr.find t with | some r => r.agg | none => false
  off t f := match tr.find t with | some r => (nth r.places f).map (·.1) | none => none
  fsz t f := match tr.find t with | some r => (nth r.places f).map (·.2) | none => none
  row t := match tr.find t with | some r => r.row | none => none
  elem t := match tr.find t with | some r => r.elem | none => none
  tup _ := none
  kind t := match tr.find t with | some r => r.kind | none => none
  one t f := match tr.find t with | some r => r.ones.any (Nat.beq f) | none => false
  eq t := match tr.find t with | some r => r.eq | none => false

def zeroB : RT → List Value → Bool
  | .nil, [] => true
  | .cons (.int k) r, .int l n :: vs => decide (k = l) && decide (n = 0) && zeroB r vs
  | .cons .bool r, .bool b :: vs => !b && zeroB r vs
  | .cons .str r, .string s :: vs => (match s.data.toList with | [] => true | _ => false) && zeroB r vs
  | .cons (.sl _) r, .slice none 0 0 :: vs => zeroB r vs
  | _, _ => false

theorem zeroB_ok : (r : RT) → (vs : List Value) → zeroB r vs = true → ZeroL r vs
  | .nil, [], _ => rfl
  | .nil, _ :: _, h => by simp [zeroB] at h
  | .cons t r, [], h => by cases t <;> simp [zeroB] at h
  | .cons t r, v :: vs, h => by
    cases t with
    | int k =>
      cases v <;> try (simp [zeroB] at h; done)
      rename_i l n
      simp only [zeroB, Bool.and_eq_true, decide_eq_true_eq] at h
      obtain ⟨⟨rfl, rfl⟩, h⟩ := h
      exact ⟨vs, rfl, zeroB_ok r vs h⟩
    | bool =>
      cases v <;> try (simp [zeroB] at h; done)
      rename_i b
      simp only [zeroB, Bool.and_eq_true, Bool.not_eq_true'] at h
      obtain ⟨rfl, h⟩ := h
      exact ⟨vs, rfl, zeroB_ok r vs h⟩
    | str =>
      cases v <;> try (simp [zeroB] at h; done)
      rename_i s
      simp only [zeroB, Bool.and_eq_true] at h
      obtain ⟨h1, h⟩ := h
      refine ⟨vs, ?_, zeroB_ok r vs h⟩
      obtain ⟨d⟩ := s
      obtain ⟨d⟩ := d
      cases d with
      | nil => rfl
      | cons _ _ => simp at h1
    | sl q =>
      cases v <;> try (simp [zeroB] at h; done)
      rename_i a n m
      cases a with
      | some _ => simp [zeroB] at h
      | none => cases n with
        | succ _ => simp [zeroB] at h
        | zero => cases m with
          | succ _ => simp [zeroB] at h
          | zero =>
            have h : zeroB r vs = true := h
            exact ⟨vs, rfl, zeroB_ok r vs h⟩

def optIs {α : Type} (o : Option α) (p : α → Bool) : Bool := match o with | some x => p x | none => false
theorem optIs_ok {α : Type} {o : Option α} {p : α → Bool} (h : optIs o p = true) : ∃ x, o = some x ∧ p x = true := by
  cases o with
  | none => cases h
  | some x => exact ⟨x, rfl, h⟩

def fieldsB (P : Program) : List Field → List (Nat × Nat) → Bool
  | [], [] => true
  | f :: fs, (o, s) :: ps => Nat.beq f.offset o && (optIs (P.info? f.type) (fun i => Nat.beq i.size s) && (Nat.blt 0 s && fieldsB P fs ps))
  | _, _ => false

theorem fieldsB_ok {P : Program} : (fs : List Field) → (ps : List (Nat × Nat)) → fieldsB P fs ps = true →
    fs.mapM (fun f => (P.info? f.type).map fun i => (f.offset, i.size)) = some ps ∧ ∀ (k : Nat) p, ps[k]? = some p → ∃ fld n, fs[k]? = some fld ∧ fld.offset = p.1 ∧ (P.info? fld.type).map (·.size) = some (n + 1)
  | [], [], _ => ⟨rfl, fun k p h => by simp at h⟩
  | [], _ :: _, h => by simp [fieldsB] at h
  | _ :: _, [], h => by simp [fieldsB] at h
  | f :: fs, (o, s) :: ps, h => by
    unfold fieldsB at h
    rw [Bool.and_eq_true, Bool.and_eq_true, Bool.and_eq_true] at h
    obtain ⟨h1, h2, h3, h4⟩ := h
    obtain ⟨i, hi, his⟩ := optIs_ok h2
    have h1 := Nat.eq_of_beq_eq_true h1
    have his := Nat.eq_of_beq_eq_true his
    obtain ⟨g1, g2⟩ := fieldsB_ok fs ps h4
    refine ⟨by simp [List.mapM_cons, hi, g1, h1, his], fun k p hp => ?_⟩
    cases k with
    | zero =>
      simp at hp
      subst hp
      have h3 : 0 < s := Nat.le_of_ble_eq_true h3
      exact ⟨f, s - 1, rfl, h1, by rw [hi]; simp [his]; omega⟩
    | succ k => exact g2 k p (by simpa using hp)

def kindB (P : Program) (t : Nat) : Ty → Bool
  | .int k => optIs (P.underlying t) fun | .int l => decide (k = l) | _ => false
  | .bool => optIs (P.underlying t) fun | .bool => true | _ => false
  | .str => optIs (P.underlying t) fun | .string => true | _ => false
  | .sl _ => false

def recOk0 (P : Program) (t : Nat) (r : Rec) : Bool :=
  optIs (P.info? t) (fun i => Nat.beq i.size r.size && (match r.row with | some q => optIs i.zero (fun z => zeroB q z.cells.toList) | none => true)) &&
  (optIs (P.underlying t) (fun d => (d.isRow == r.agg) && (bif r.agg then true else Nat.beq r.size 1) && (match d with | .struct fs => bif r.agg then fieldsB P fs.toList r.places else Nat.beq r.places.length 0 | _ => !r.agg && Nat.beq r.places.length 0)
      && (match r.elem with | some (q, b) => (match d with | .slice e => optIs (P.info? e) (fun i => Nat.beq i.size q.width && (Nat.blt 0 q.width && (Nat.beq i.bytes b && (Nat.blt 0 b && optIs i.zero (fun z => zeroB q z.cells.toList))))) | _ => false) | none => true)) &&
  ((match r.kind with | some k => kindB P t k | none => true) && (match r.elem with | some (.cons (.int .u8) .nil, _) => optIs (P.underlying t) (fun d => match d with | .slice e => kindB P e (.int .u8) | _ => false) | _ => true)))

/-- Fields that are no structs themselves. -/
def onesB (P : Program) (t : Nat) (l : List Nat) : Bool := l.all fun f => optIs (P.underlying t) fun d => match d with | .struct fs => optIs fs[f]? (fun fld => optIs (P.underlying fld.type) fun e => !e.isRow) | _ => false
def recOk (P : Program) (t : Nat) (r : Rec) : Bool := recOk0 P t r && onesB P t r.ones

theorem tab_ok {P : Program} {tr : Tr} (h : tr.all (recOk P) = true) : TabOk P (tabOf tr) := by
  have get0 : ∀ {t r}, tr.find t = some r → recOk P t r = true := fun hf => Tr.all_find tr h hf
  have get : ∀ {t r}, tr.find t = some r → recOk0 P t r = true := fun hf => (Bool.and_eq_true _ _ ▸ get0 hf).1
  have base : ∀ {t r}, tr.find t = some r → (∃ i, P.info? t = some i ∧ i.size = r.size ∧ ∀ q, r.row = some q → ∃ z, i.zero = some z ∧ ZeroL q z.cells.toList) ∧
      (∃ d, P.underlying t = some d ∧ d.isRow = r.agg ∧ (r.agg = false → r.size = 1) ∧ (r.places ≠ [] ∨ r.agg = true → ∃ fs, d = .struct fs ∧ fieldsB P fs.toList r.places = true) ∧
        ∀ q b, r.elem = some (q, b) → ∃ e i z, d = .slice e ∧ P.info? e = some i ∧ i.size = q.width ∧ 0 < q.width ∧ i.bytes = b ∧ 0 < b ∧ i.zero = some z ∧ ZeroL q z.cells.toList) ∧
      ∀ k, r.kind = some k → kindB P t k = true := by
    intro t r hf
    have h1 := get hf
    unfold recOk0 at h1
    rw [Bool.and_eq_true, Bool.and_eq_true, Bool.and_eq_true] at h1
    obtain ⟨h1, h2, h3, _⟩ := h1
    obtain ⟨i, hi, h4⟩ := optIs_ok h1
    rw [Bool.and_eq_true] at h4
    obtain ⟨d, hd, h5⟩ := optIs_ok h2
    rw [Bool.and_eq_true, Bool.and_eq_true, Bool.and_eq_true] at h5
    obtain ⟨⟨⟨g1, g2⟩, g3⟩, g4⟩ := h5
    refine ⟨⟨i, hi, Nat.eq_of_beq_eq_true h4.1, fun q hq => ?_⟩, ⟨d, hd, by simpa using g1, fun hag => ?_, fun hne => ?_, fun q b he => ?_⟩, fun k hk => ?_⟩
    · have h6 := h4.2
      rw [hq] at h6
      obtain ⟨z, hz, h7⟩ := optIs_ok h6
      exact ⟨z, hz, zeroB_ok q _ h7⟩
    · rw [hag] at g2
      exact Nat.eq_of_beq_eq_true g2
    · cases hag : r.agg with
      | true =>
        rw [hag] at g3
        cases d with
        | struct fs => exact ⟨fs, rfl, g3⟩
        | _ => simp at g3
      | false =>
        rw [hag] at g3
        rcases hne with hne | hne
        · have : Nat.beq r.places.length 0 = true := by
            cases d with
            | struct fs => exact g3
            | _ => simpa using g3
          exact absurd (List.length_eq_zero_iff.1 (Nat.eq_of_beq_eq_true this)) hne
        · rw [hag] at hne; cases hne
    · rw [he] at g4
      cases d with
      | slice e =>
        obtain ⟨i, h6, h7⟩ := optIs_ok g4
        rw [Bool.and_eq_true, Bool.and_eq_true, Bool.and_eq_true, Bool.and_eq_true] at h7
        obtain ⟨k1, k2, k3, k4, k5⟩ := h7
        obtain ⟨z, hz, h8⟩ := optIs_ok k5
        exact ⟨e, i, z, rfl, h6, Nat.eq_of_beq_eq_true k1, Nat.le_of_ble_eq_true k2, Nat.eq_of_beq_eq_true k3, Nat.le_of_ble_eq_true k4, hz, zeroB_ok q _ h8⟩
      | _ => cases g4
    · rw [hk] at h3; exact h3
  have look : ∀ {α : Type} {t : Nat} {g : Rec → Option α} {x : α}, (match tr.find t with | some r => g r | none => none) = some x → ∃ r, tr.find t = some r ∧ g r = some x := by
    intro α t g x hx
    cases hf : tr.find t with
    | none => rw [hf] at hx; cases hx
    | some r => rw [hf] at hx; exact ⟨r, rfl, hx⟩
  have lookB : ∀ {t : Nat} {g : Rec → Bool}, (match tr.find t with | some r => g r | none => false) = true → ∃ r, tr.find t = some r ∧ g r = true := by
    intro t g hx
    cases hf : tr.find t with
    | none => rw [hf] at hx; cases hx
    | some r => rw [hf] at hx; exact ⟨r, rfl, hx⟩
  exact {
    cells := fun t n ht => by
      obtain ⟨r, hf, rfl⟩ := Option.map_eq_some_iff.1 ht
      obtain ⟨⟨i, hi, hs, _⟩, _⟩ := base hf
      rw [hi]; simp [hs]
    agg := fun t n ht => by
      obtain ⟨r, hf, rfl⟩ := Option.map_eq_some_iff.1 ht
      obtain ⟨_, ⟨d, hd, h1, h2, _⟩, _⟩ := base hf
      have e : (tabOf tr).agg t = r.agg := by show (match tr.find t with | some r => r.agg | none => false) = _; rw [hf]
      exact ⟨d, hd, h1.trans e.symm, fun h => h2 (e ▸ h)⟩
    off := fun t f k ht => by
      obtain ⟨r, hf, hk⟩ := look ht
      obtain ⟨p, hp, rfl⟩ := Option.map_eq_some_iff.1 hk
      obtain ⟨_, ⟨d, hd, _, _, h3, _⟩, _⟩ := base hf
      rw [nth_eq] at hp
      obtain ⟨fs, rfl, hfs⟩ := h3 (.inl (by intro e; rw [e] at hp; simp at hp))
      obtain ⟨fld, n, g1, g2, g3⟩ := (fieldsB_ok fs.toList r.places hfs).2 f p hp
      exact ⟨fs, fld, n, hd, by simpa using g1, g2, g3⟩
    bld := fun t ht => by
      obtain ⟨r, hf, hag⟩ := lookB (g := fun r => r.agg) ht
      obtain ⟨_, ⟨d, hd, _, _, h3, _⟩, _⟩ := base hf
      obtain ⟨fs, rfl, hfs⟩ := h3 (.inr hag)
      refine ⟨fs, r.places, hd, (fieldsB_ok fs.toList r.places hfs).1, fun f o s ho hs => ?_⟩
      have ho : (match tr.find t with | some r => (nth r.places f).map (·.1) | none => none) = some o := ho
      have hs : (match tr.find t with | some r => (nth r.places f).map (·.2) | none => none) = some s := hs
      rw [hf] at ho hs
      obtain ⟨p, hp, rfl⟩ := Option.map_eq_some_iff.1 ho
      obtain ⟨p', hp', rfl⟩ := Option.map_eq_some_iff.1 hs
      rw [hp] at hp'
      injection hp' with e
      subst e
      rw [nth_eq] at hp
      exact hp
    row := fun t q ht => by
      obtain ⟨r, hf, hk⟩ := look (g := fun r => r.row) ht
      obtain ⟨⟨i, hi, _, h1⟩, _⟩ := base hf
      obtain ⟨z, hz, hzl⟩ := h1 q hk
      exact ⟨i, z, hi, hz, hzl⟩
    elem := fun t q b ht => by
      obtain ⟨r, hf, hk⟩ := look (g := fun r => r.elem) ht
      obtain ⟨_, ⟨d, hd, _, _, _, h4⟩, _⟩ := base hf
      obtain ⟨e, i, z, rfl, h5⟩ := h4 q b hk
      exact ⟨e, i, z, hd, h5⟩
    u8 := fun t e b ht hu => by
      obtain ⟨r, hf, hk⟩ := look (g := fun r => r.elem) ht
      have h1 := get hf
      unfold recOk0 at h1
      rw [Bool.and_eq_true, Bool.and_eq_true, Bool.and_eq_true] at h1
      have h2 := h1.2.2.2
      rw [hk] at h2
      obtain ⟨d, hd, h3⟩ := optIs_ok h2
      rw [hu] at hd
      injection hd with hd
      subst hd
      obtain ⟨d2, hd2, h4⟩ := optIs_ok h3
      rw [hd2]
      cases d2 <;> simp at h4
      rw [← h4]
    one := fun t f ht => by
      have ht : (match tr.find t with | some r => r.ones.any (Nat.beq f) | none => false) = true := ht
      cases hf : tr.find t with
      | none => rw [hf] at ht; cases ht
      | some r =>
        rw [hf] at ht
        have h2 : onesB P t r.ones = true := (Bool.and_eq_true _ _ ▸ get0 hf).2
        obtain ⟨g, hg, hb⟩ := List.any_eq_true.1 ht
        have hb := Nat.eq_of_beq_eq_true hb
        subst hb
        have h3 := List.all_eq_true.1 h2 f hg
        obtain ⟨d, hd, h4⟩ := optIs_ok h3
        cases d with
        | struct fs =>
          obtain ⟨fld, hfld, h5⟩ := optIs_ok h4
          obtain ⟨e, he, h6⟩ := optIs_ok h5
          exact ⟨fs, fld, e, hd, hfld, he, by simpa using h6⟩
        | _ => cases h4
    kind := fun t y ht => by
      obtain ⟨r, hf, hk⟩ := look (g := fun r => r.kind) ht
      have h1 := (base hf).2.2 y hk
      cases y with
      | int k =>
        obtain ⟨d, hd, h2⟩ := optIs_ok h1
        refine ⟨d, hd, ?_⟩
        cases d <;> simp at h2
        rw [h2]; rfl
      | bool =>
        obtain ⟨d, hd, h2⟩ := optIs_ok h1
        refine ⟨d, hd, ?_⟩
        cases d <;> simp at h2
        rfl
      | str =>
        obtain ⟨d, hd, h2⟩ := optIs_ok h1
        refine ⟨d, hd, ?_⟩
        cases d <;> simp at h2
        rfl
      | sl _ => cases h1 }

/-- Where no struct is compared. -/
def Tr.noEq : Tr → Bool
  | .leaf => true
  | .node l _ v r => l.noEq && (!v.eq && r.noEq)

theorem noEq_ok {P : Program} {tr : Tr} (h : tr.noEq = true) : EqOk P (tabOf tr) := by
  intro t ht
  exfalso
  have ht : (match tr.find t with | some r => r.eq | none => false) = true := ht
  have key : ∀ (tr : Tr), tr.noEq = true → ∀ r, tr.find t = some r → r.eq = false := by
    intro tr
    induction tr with
    | leaf => intro _ r hf; cases hf
    | node l k v r ihl ihr =>
      intro h q hf
      unfold Tr.noEq at h
      rw [Bool.and_eq_true, Bool.and_eq_true] at h
      unfold Tr.find at hf
      cases hb : Nat.beq t k with
      | true => rw [hb] at hf; injection hf with hf; subst hf; simpa using h.2.1
      | false =>
        rw [hb] at hf
        cases hl : Nat.blt t k with
        | true => rw [hl] at hf; exact ihl h.1 q hf
        | false => rw [hl] at hf; exact ihr h.2.2 q hf
  cases hf : tr.find t with
  | none => rw [hf] at ht; cases ht
  | some r =>
    rw [hf] at ht
    have ht2 : r.eq = true := ht
    rw [key tr h r hf] at ht2
    cases ht2

end Go.TM

/- The tree machine, part 41: a function's contract by checks alone. -/
namespace Go.TM
open Go Go.RowKit

/-- The loops of a code, not those within them. -/
def loopsIn : Code → List (Nat × Code)
  | .seq a b => loopsIn a ++ loopsIn b
  | .cond _ a b => loopsIn a ++ loopsIn b
  | .block id (.loop b) => [(id, b)]
  | .block _ a => loopsIn a
  | _ => []

theorem codeLoops_of {ok : Nat → Code → Prop} : (c : Code) → (∀ p ∈ loopsIn c, ok p.1 p.2) → codeLoops ok c := by
  intro c
  induction c with
  | seq a b iha ihb =>
    intro h
    unfold loopsIn at h
    exact ⟨iha fun p hp => h p (List.mem_append_left _ hp), ihb fun p hp => h p (List.mem_append_right _ hp)⟩
  | cond x a b iha ihb =>
    intro h
    unfold loopsIn at h
    exact ⟨iha fun p hp => h p (List.mem_append_left _ hp), ihb fun p hp => h p (List.mem_append_right _ hp)⟩
  | block id a ih =>
    intro h
    by_cases hb : ∃ b', a = .loop b'
    · obtain ⟨b', rfl⟩ := hb
      exact h (id, b') (by unfold loopsIn; exact List.mem_cons_self)
    · cases a with
      | loop b' => exact absurd ⟨b', rfl⟩ hb
      | _ => unfold loopsIn at h; unfold codeLoops; exact ih h
  | _ => intro _; unfold codeLoops; trivial

def nthLoop (c : Code) (i : Nat) : Code := match nth (loopsIn c) i with | some p => p.2 | none => .skip

/-- Are all regions of open order given a good order? -/
def codeDrawB (D : Draws) : Code → Bool
  | .region id ops true => drawOk ops (D id)
  | .seq a b => codeDrawB D a && codeDrawB D b
  | .cond _ a b => codeDrawB D a && codeDrawB D b
  | .block _ (.loop _) => true
  | .block _ a => codeDrawB D a
  | _ => true

theorem codeDraw_of {D : Draws} : (c : Code) → codeDrawB D c = true → codeDraw (fun id ops => drawOk ops (D id) = true) c := by
  intro c
  induction c with
  | region id ops dr =>
    intro h
    cases dr with
    | true => exact h
    | false => unfold codeDraw; trivial
  | seq a b iha ihb =>
    intro h
    unfold codeDrawB at h
    rw [Bool.and_eq_true] at h
    exact ⟨iha h.1, ihb h.2⟩
  | cond x a b iha ihb =>
    intro h
    unfold codeDrawB at h
    rw [Bool.and_eq_true] at h
    exact ⟨iha h.1, ihb h.2⟩
  | block id a ih =>
    intro h
    by_cases hb : ∃ b', a = .loop b'
    · obtain ⟨b', rfl⟩ := hb
      unfold codeDraw; trivial
    · cases a with
      | loop b' => exact absurd ⟨b', rfl⟩ hb
      | _ => unfold codeDrawB at h; unfold codeDraw; exact ih h
  | _ => intro _; unfold codeDraw; trivial

def Src.same : Src → Src → Bool
  | .tmp a, .tmp b => Nat.beq a b
  | .cell a, .cell b => Nat.beq a b
  | .ptr a, .ptr b => Nat.beq a b
  | _, _ => false
theorem Src.same_ok : {a b : Src} → a.same b = true → a = b
  | .tmp _, .tmp _, h => congrArg Src.tmp (Nat.eq_of_beq_eq_true h)
  | .cell _, .cell _, h => congrArg Src.cell (Nat.eq_of_beq_eq_true h)
  | .ptr _, .ptr _, h => congrArg Src.ptr (Nat.eq_of_beq_eq_true h)
  | .tmp _, .cell _, h => by cases h
  | .tmp _, .ptr _, h => by cases h
  | .cell _, .tmp _, h => by cases h
  | .cell _, .ptr _, h => by cases h
  | .ptr _, .tmp _, h => by cases h
  | .ptr _, .cell _, h => by cases h

def resB (T : Tab) : List ResultVar → List RP → Bool
  | [], [] => true
  | .tmp t :: vs, r :: rs => (r.src.same (.tmp t) || r.src.same (.ptr t)) && resB T vs rs
  | .cell t ty :: vs, r :: rs => r.src.same (.cell t) && ((match T.cells ty with | some n => Nat.beq n r.ps.length | none => false) && ((T.agg ty == r.agg) && resB T vs rs))
  | _, _ => false

theorem resB_ok {T : Tab} (tm : Array Value) : (vs : List ResultVar) → (rs : List RP) → resB T vs rs = true → ResFit T tm vs rs
  | [], [], _ => trivial
  | [], _ :: _, h => by simp [resB] at h
  | v :: _, [], h => by cases v <;> simp [resB] at h
  | .tmp t :: vs, r :: rs, h => by
    unfold resB at h
    rw [Bool.and_eq_true, Bool.or_eq_true] at h
    exact ⟨h.1.imp Src.same_ok Src.same_ok, resB_ok tm vs rs h.2⟩
  | .cell t ty :: vs, r :: rs, h => by
    unfold resB at h
    rw [Bool.and_eq_true, Bool.and_eq_true, Bool.and_eq_true] at h
    obtain ⟨h1, h2, h3, h4⟩ := h
    refine ⟨⟨Src.same_ok h1, ?_, by simpa using h3⟩, resB_ok tm vs rs h4⟩
    cases hc : T.cells ty with
    | none => rw [hc] at h2; cases h2
    | some n => rw [hc] at h2; rw [Nat.eq_of_beq_eq_true h2]

/-! ### What is called -/
abbrev SemL := List (Nat × (Pm × Pm × Pm × Sem1))
def semsOf : SemL → Sems
  | [], _ => none
  | (g, s) :: l, f => bif Nat.beq f g then some s else semsOf l f

/-- A function that may be called by its contract. -/
structure Known (P : Program) (f : FuncId) (sem : Sem1) : Prop where
  ok : FnOk P f sem
  fn : ∃ fn, P.funcs[f]? = some fn ∧ (fn.name == "runtime.NumGoroutine") = false ∧ fn.body.isNone = false

theorem sems_nil {P : Program} : SemsOk P (semsOf []) := fun f a b c sem h => by cases h
theorem sems_cons {P : Program} {g : Nat} {a b c : Pm} {sem : Sem1} {l : SemL} (hk : Known P g sem) (hl : SemsOk P (semsOf l)) : SemsOk P (semsOf ((g, (a, b, c, sem)) :: l)) := by
  intro f a' b' c' sem' h
  unfold semsOf at h
  cases hb : Nat.beq f g with
  | true =>
    rw [hb] at h
    injection h with h
    injection h with _ h
    injection h with _ h
    injection h with _ h
    subst h
    rw [Nat.eq_of_beq_eq_true hb]
    exact ⟨hk.ok, hk.fn⟩
  | false => rw [hb] at h; exact hl f a' b' c' sem' h

def fnB (T : Tab) (D : Draws) (fn : Func) (code : Code) (n : Nat) (ps : List AP) (rs : List RP) : Bool :=
  Nat.beq fn.ntmps n && (Nat.ble ps.length n && (codeDst n code && (resB T fn.results.toList rs && codeDrawB D code)))

theorem fn_auto {P : Program} {tr : Tr} (hT : tr.all (recOk P) = true) (hE : EqOk P (tabOf tr)) (hm : P.follows .mixedOrders = true) {S : Sems} (hS : SemsOk P S) {D : Draws} {f : FuncId} {fn : Func} {code : Code} {n : Nat} {ps : List AP} {rs : List RP}
    {L : Loops (denR (resRT rs (extRT ps)))} {t : denR (headRT (ps.map some)) → Option (denR (resRT rs (extRT ps)))}
    (hf : P.funcs[f]? = some fn) (hb : fn.body = some code) (hchk : fnB (tabOf tr) D fn code n ps rs = true) (hname : (fn.name == "runtime.NumGoroutine") = false)
    (hL : ∀ (w0 : World) (mu : Mu) (y : denR (resRT rs (extRT ps))), AnShape ps mu → ∀ p ∈ loopsIn code, LoopAt P w0 mu n L y p.1 p.2)
    (hsem : ∀ x, codeK (tabOf tr) S D L code (start n ps x) (finK rs ps) = t x) : Known P f (semOf ps rs t) := by
  unfold fnB at hchk
  rw [Bool.and_eq_true, Bool.and_eq_true, Bool.and_eq_true, Bool.and_eq_true] at hchk
  obtain ⟨h1, h2, h3, h4, h5⟩ := hchk
  refine ⟨fn_ok (tab_ok hT) hE hS hf hb (Nat.eq_of_beq_eq_true h1) (Nat.le_of_ble_eq_true h2) h3 (fun tm => resB_ok tm _ _ h4) (fun w0 mu y hs => codeLoops_of code (hL w0 mu y hs))
    (fun w0 mu => drawSound (tab_ok hT) hE hm (opSound (tab_ok hT) hE hS w0 mu n)) (codeDraw_of code h5) hsem, fn, hf, hname, by rw [hb]; rfl⟩

def loopB (D : Draws) (ps : List AP) (hp e0 e1 : List (Option AP)) (n : Nat) (b : Code) : Bool :=
  (headFit ps hp && (headFit ps e0 && headFit ps e1)) && (codeDst n b && codeDrawB D b)

theorem loop_auto {R : Type} {P : Program} {tr : Tr} (hT : tr.all (recOk P) = true) (hE : EqOk P (tabOf tr)) (hm : P.follows .mixedOrders = true) {S : Sems} (hS : SemsOk P S) {D : Draws} {n id : Nat} {w0 : World} {mu : Mu} {ps : List AP} {hp e0 e1 : List (Option AP)} {b : Code} {r : R} {L : Loops R}
    {L' : Loops (Sum (denR (headRT hp)) (Sum (denR (headRT e0)) (denR (headRT e1))))} {round : denR (headRT hp) → Option (Sum (denR (headRT hp)) (Sum (denR (headRT e0)) (denR (headRT e1))))}
    (hs : AnShape ps mu) (hchk : loopB D ps hp e0 e1 n b = true)
    (hin : ∀ z, ∀ p ∈ loopsIn b, LoopAt P w0 mu n L' z p.1 p.2) (hround : ∀ x, codeK (tabOf tr) S D L' b (headSt hp x) (roundK id hp e0 e1) = round x) (hL : ∀ st k, L id b st k = loopAt hp e0 e1 round st k) : LoopAt P w0 mu n L r id b := by
  unfold loopB at hchk
  rw [Bool.and_eq_true, Bool.and_eq_true (codeDst n b)] at hchk
  exact loop_ok (opSound (tab_ok hT) hE hS w0 mu n) (drawSound (tab_ok hT) hE hm (opSound (tab_ok hT) hE hS w0 mu n)) hs hchk.1 hchk.2.1 (codeDraw_of b hchk.2.2) (fun z => codeLoops_of b (hin z)) hround hL

/-- Where a loop goes on. -/
def outK {A B C : Type} (o : Option (Sum A B)) (f : A → Option C) (g : B → Option C) : Option C :=
  o.bind fun z => match z with
    | .inl y => f y
    | .inr y => g y

end Go.TM

/- The tree machine, part 42: what a law is handed, as data. -/
namespace Go.TM
open Go Go.RowKit Go.ChangeShapes

def RT.app : RT → RT → RT
  | .nil, s => s
  | .cons t r, s => .cons t (r.app s)
def catR : (r s : RT) → denR r → denR s → denR (r.app s)
  | .nil, _, _, y => y
  | .cons _ r, s, x, y => (x.1, catR r s x.2 y)

mutual
/-- Data of a size that is met. -/
def SzTy : (t : Ty) → den t → Prop
  | .int k, n => (Lit.int k n).wf = true
  | .bool, _ => True
  | .str, s => ByteArray.size s ≤ maxLen
  | .sl r, xs => (asL xs).length ≤ maxLen ∧ ∀ x ∈ asL xs, SzR r x
def SzR : (r : RT) → denR r → Prop
  | .nil, _ => True
  | .cons t r, x => SzTy t x.1 ∧ SzR r x.2
end

theorem szNil (x : denR .nil) : SzR .nil x := SzR.eq_1 x ▸ trivial
theorem szCons {t : Ty} {r : RT} {x : denR (.cons t r)} : SzR (.cons t r) x ↔ SzTy t x.1 ∧ SzR r x.2 := SzR.eq_2 t r x ▸ Iff.rfl
theorem szInt {k : IntKind} {n : Int} : SzTy (.int k) n ↔ (Lit.int k n).wf = true := SzTy.eq_1 k n ▸ Iff.rfl
theorem szBool {b : Bool} : SzTy .bool b := SzTy.eq_2 b ▸ trivial
theorem szStr {s : ByteArray} : SzTy .str s ↔ ByteArray.size s ≤ maxLen := SzTy.eq_3 s ▸ Iff.rfl
theorem szSl {r : RT} {xs : List (denR r)} : SzTy (.sl r) xs ↔ (xs.length ≤ maxLen ∧ ∀ x ∈ xs, SzR r x) := SzTy.eq_4 r xs ▸ Iff.rfl

theorem RT.width_app : (r s : RT) → (r.app s).width = r.width + s.width
  | .nil, s => by simp [RT.app, RT.width]
  | .cons t r, s => by simp [RT.app, RT.width, RT.width_app r s]; omega

theorem RepVs.cat {w : World} {ok : Nat → Prop} : (r s : RT) → (l m : List Value) → (x : denR r) → (y : denR s) → RepVs w ok r l x → RepVs w ok s m y → RepVs w ok (r.app s) (l ++ m) (catR r s x y)
  | .nil, s, l, m, x, y, h, h' => by
    have : l = [] := h
    subst this
    exact h'
  | .cons t r, s, l, m, x, y, h, h' => by
    obtain ⟨v, l', rfl, h1, h2⟩ := h
    exact ⟨v, l' ++ m, rfl, h1, RepVs.cat r s l' m x.2 y h2 h'⟩

theorem SzR.cat : (r s : RT) → (x : denR r) → (y : denR s) → SzR r x → SzR s y → SzR (r.app s) (catR r s x y)
  | .nil, _, _, _, _, h' => h'
  | .cons t r, s, x, y, h, h' => by
    exact szCons.2 ⟨(szCons.1 h).1, SzR.cat r s x.2 y (szCons.1 h).2 h'⟩

def rowsF (P : Program) (row : TypeId → Option RT) : Nat → List Field → Option RT
  | _, [] => some .nil
  | off, f :: fs => match row f.type with
    | some q => (match rowsF P row (off + q.width) fs with
      | some r => bif Nat.beq f.offset off && Nat.beq (P.cellsOf f.type) q.width then some (q.app r) else none
      | none => none)
    | none => none

/-- A type's cells, out of the program. -/
def rowB (P : Program) : Nat → TypeId → Option RT
  | 0, _ => none
  | n + 1, t => match P.underlying t with
    | some .bool => some (.cons .bool .nil)
    | some (.int k) => some (.cons (.int k) .nil)
    | some .string => some (.cons .str .nil)
    | some (.slice e) => (match rowB P n e with
      | some q => bif Nat.beq (P.cellsOf e) q.width && Nat.blt 0 q.width then some (.cons (.sl q) .nil) else none
      | none => none)
    | some (.struct fs) => (match rowsF P (rowB P n) 0 fs.toList with
      | some r => bif Nat.beq (P.cellsOf t) r.width then some r else none
      | none => none)
    | _ => none

theorem list_of {α : Type} {Pr : Nat → α → Prop} : (n : Nat) → (∀ i, i < n → ∃ x, Pr i x) → ∃ xs : List α, xs.length = n ∧ ∀ (i : Nat) x, xs[i]? = some x → Pr i x
  | 0, _ => ⟨[], rfl, fun i x h => by simp at h⟩
  | n + 1, h => by
    obtain ⟨xs, h1, h2⟩ := list_of n (fun i hi => h i (by omega))
    obtain ⟨x, hx⟩ := h n (by omega)
    refine ⟨xs ++ [x], by simp [h1], fun i y hy => ?_⟩
    by_cases hi : i < n
    · rw [List.getElem?_append_left (by omega)] at hy
      exact h2 i y hy
    · rw [List.getElem?_append_right (by omega)] at hy
      have hin : i = n := by
        have := (List.getElem?_eq_some_iff.1 hy).1
        simp at this
        omega
      subst hin
      rw [h1, Nat.sub_self] at hy
      simp at hy
      rw [← hy]; exact hx

theorem cell_spot {w : World} {a : Addr} {v : Value} (h : w.cell? a = some v) : a.spot = none := by
  unfold World.cell? at h
  split at h
  · split at h
    · cases h
    · rename_i hs; simpa using hs
  · cases h

theorem mapM_get {α β : Type} {f : α → Option β} : (l : List α) → {m : List β} → l.mapM f = some m → m.length = l.length ∧ ∀ (i : Nat) a, l[i]? = some a → f a = m[i]?
  | [], m, h => by
    simp at h
    subst h
    exact ⟨rfl, fun i a ha => by simp at ha⟩
  | a :: l, m, h => by
    rw [List.mapM_cons] at h
    cases ha : f a with
    | none => simp [ha] at h
    | some b =>
      cases hl : l.mapM f with
      | none => simp [ha, hl] at h
      | some m' =>
        simp [ha, hl] at h
        subst h
        obtain ⟨h1, h2⟩ := mapM_get l hl
        refine ⟨by simp [h1], fun i x hx => ?_⟩
        cases i with
        | zero => simp at hx; subst hx; simpa using ha
        | succ i => simpa using h2 i x (by simpa using hx)

theorem cells_range {w : World} {base n : Nat} {a : Addr} {vs : List Value} (h : w.cells? base a n = some vs) : vs.length = n ∧ w.rangeAt a.block a.off vs ∧ (0 < n → a.spot = none) := by
  unfold World.cells? at h
  split at h
  · obtain ⟨h1, h2⟩ := mapM_get _ h
    simp at h1
    have each : ∀ j v, vs[j]? = some v → w.cell? (a.add j) = some v := by
      intro j v hv
      have hj : j < n := by
        have := (List.getElem?_eq_some_iff.1 hv).1
        omega
      rw [h2 j j (by simp [hj]), hv]
    refine ⟨h1, fun j v hv => ?_, fun hn => ?_⟩
    · have := each j v hv
      have hs := cell_spot this
      have e : a.add j = ⟨a.block, a.off + j, none⟩ := by
        unfold Addr.add at hs ⊢
        split
        · rename_i h0
          subst h0
          rw [if_pos rfl] at hs
          obtain ⟨b, o, s⟩ := a
          simp at hs
          subst hs
          rfl
        · rfl
      rw [← e]; exact this
    · have hlt : 0 < vs.length := by omega
      have := each 0 vs[0] (by simp [hlt])
      have hs := cell_spot this
      simpa [Addr.add] using hs
  · cases h

theorem fields_ok {P : Program} {w : World} {cs : List Value} {row : TypeId → Option RT} : (fs : List Field) → (off : Nat) → (r : RT) → rowsF P row off fs = some r →
    (∀ f ∈ fs, ∀ q, row f.type = some q → ∃ x : denR q, RepVs w (fun _ => True) q ((cs.drop f.offset).take (P.cellsOf f.type)) x ∧ SzR q x) → off + r.width ≤ cs.length →
    ∃ x : denR r, RepVs w (fun _ => True) r ((cs.drop off).take r.width) x ∧ SzR r x
  | [], off, r, h, _, _ => by
    simp only [rowsF, Option.some.injEq] at h
    subst h
    exact ⟨(), by simp [RT.width, RepVs], szNil _⟩
  | f :: fs, off, r, h, hf, hl => by
    unfold rowsF at h
    cases hq : row f.type with
    | none => simp [hq] at h
    | some q =>
      simp only [hq] at h
      cases hr : rowsF P row (off + q.width) fs with
      | none => simp [hr] at h
      | some r' =>
        simp only [hr] at h
        obtain ⟨h1, h2⟩ := bif_some h
        injection h2 with h2
        subst h2
        rw [Bool.and_eq_true] at h1
        have ho := Nat.eq_of_beq_eq_true h1.1
        have hc := Nat.eq_of_beq_eq_true h1.2
        rw [RT.width_app] at hl
        obtain ⟨x, hx1, hx2⟩ := hf f List.mem_cons_self q hq
        obtain ⟨y, hy1, hy2⟩ := fields_ok fs (off + q.width) r' hr (fun g hg => hf g (List.mem_cons_of_mem _ hg)) (by omega)
        refine ⟨catR q r' x y, ?_, SzR.cat q r' x y hx2 hy2⟩
        rw [RT.width_app, List.take_add, List.drop_drop]
        rw [ho, hc] at hx1
        exact RepVs.cat q r' _ _ x y hx1 hy1

theorem rowB_ok {H : Type} {enc : TypeId × Value → H} {P : Program} {w : World} {base : Nat} {spare : Nat → Bool} {held : Bool} : (n : Nat) → ∀ {t : TypeId} {r : RT} {fuel : Nat} {cs : List Value} {y : DataW H × List MemPlace}, rowB P n t = some r →
    DataW.trod enc P w base spare held fuel t cs = some y → ∃ x : denR r, RepVs w (fun _ => True) r cs x ∧ SzR r x
  | 0, _, _, _, _, _, h, _ => by cases h
  | n + 1, t, r, fuel, cs, y, h, hd => by
    unfold rowB at h
    cases hu : P.underlying t with
    | none => simp [hu] at h
    | some d =>
      cases d with
      | bool =>
        simp only [hu, Option.some.injEq] at h
        subst h
        obtain ⟨b, rfl, _⟩ := DataW.trod_bool hu hd
        exact ⟨((b : Bool), ()), ⟨_, _, rfl, repBool.2 rfl, rfl⟩, szCons.2 ⟨szBool, szNil _⟩⟩
      | int k =>
        simp only [hu, Option.some.injEq] at h
        subst h
        obtain ⟨m, rfl, _, hw⟩ := DataW.trod_int hu hd
        exact ⟨((m : Int), ()), ⟨_, _, rfl, repInt.2 rfl, rfl⟩, szCons.2 ⟨szInt.2 hw, szNil _⟩⟩
      | string =>
        simp only [hu, Option.some.injEq] at h
        subst h
        obtain ⟨s, rfl, _, hw⟩ := DataW.trod_string hu hd
        exact ⟨((s : ByteArray), ()), ⟨_, _, rfl, repStr.2 rfl, rfl⟩, szCons.2 ⟨szStr.2 hw, szNil _⟩⟩
      | slice e =>
        simp only [hu] at h
        cases hq : rowB P n e with
        | none => simp [hq] at h
        | some q =>
          simp only [hq] at h
          obtain ⟨h1, h2⟩ := bif_some h
          injection h2 with h2
          subst h2
          rw [Bool.and_eq_true] at h1
          have hw := Nat.eq_of_beq_eq_true h1.1
          have hpos : 0 < q.width := Nat.le_of_ble_eq_true h1.2
          rcases DataW.trod_slice hu hd with ⟨rfl, _⟩ | ⟨a, len, cap, elems, rest, m, _, rfl, _, hb, hl, hm, hlen, hel, _, _⟩
          · exact ⟨(([] : List (denR q)), ()), ⟨_, _, rfl, (repSl _ _ _ _ _).2 (.inl ⟨rfl, rfl⟩), rfl⟩, szCons.2 ⟨szSl.2 ⟨Nat.zero_le _, fun x hx => by cases hx⟩, szNil _⟩⟩
          · have each : ∀ i, i < len → ∃ x : denR q, (RepR w (fun _ => True) q a.block (a.off + i * q.width) x ∧ SzR q x) ∧ a.spot = none ∧ a.block < w.heap.size := by
              intro i hi
              have h3 := hel i hi
              rw [List.getElem?_eq_getElem (by omega), Option.bind_eq_some_iff] at h3
              obtain ⟨vs, hvs, hy⟩ := h3
              obtain ⟨x, hx, hs⟩ := rowB_ok n hq hy
              obtain ⟨g1, g2, g3⟩ := cells_range hvs
              have hbk : (a.add (i * P.cellsOf e)).block = a.block := by unfold Addr.add; split <;> rfl
              have hof : (a.add (i * P.cellsOf e)).off = a.off + i * q.width := by
                unfold Addr.add
                rw [hw]
                split
                · rename_i h0; rw [h0]; rfl
                · rfl
              rw [hbk, hof] at g2
              refine ⟨x, ⟨(repR_iff q _ _ x).2 ⟨vs, g2, hx⟩, hs⟩, ?_, ?_⟩
              · have h4 := hel 0 (by omega)
                rw [List.getElem?_eq_getElem (by omega), Option.bind_eq_some_iff] at h4
                obtain ⟨vs0, hvs0, _⟩ := h4
                have := (cells_range hvs0).2.2 (by omega)
                simpa [Addr.add] using this
              · have hlt : 0 < vs.length := by omega
                have h5 := cell_lt (g2 0 vs[0] (by simp [hlt]))
                exact h5
            obtain ⟨xs, hx1, hx2⟩ := list_of len each
            refine ⟨((xs : List (denR q)), ()), ⟨_, _, rfl, (repSl _ _ _ _ _).2 (.inr ⟨a, cap, by rw [hx1], by rw [hx1]; exact hl, fun hne => ?_, fun i x hi => (hx2 i x hi).1.1⟩), rfl⟩, ?_⟩
            · have hlt : 0 < xs.length := List.length_pos_iff.2 hne
              have := (hx2 0 xs[0] (by simp [hlt])).2
              exact ⟨this.1, this.2, trivial⟩
            · refine szCons.2 ⟨szSl.2 ⟨by show xs.length ≤ maxLen; omega, fun x hx => ?_⟩, szNil _⟩
              obtain ⟨i, hi⟩ := List.getElem?_of_mem hx
              exact (hx2 i x hi).1.2
      | struct fs =>
        simp only [hu] at h
        cases hq : rowsF P (rowB P n) 0 fs.toList with
        | none => simp [hq] at h
        | some q =>
          simp only [hq] at h
          obtain ⟨h1, h2⟩ := bif_some h
          injection h2 with h2
          subst h2
          have hw := Nat.eq_of_beq_eq_true h1
          obtain ⟨xs, m, _, _, hlen, hxs, hel⟩ := DataW.trod_struct hu hd
          obtain ⟨x, g1, g2⟩ := fields_ok (w := w) (cs := cs) fs.toList 0 q hq (fun f hf p hp => by
            obtain ⟨i, hi⟩ := List.getElem?_of_mem hf
            rw [Array.getElem?_toList] at hi
            have h3 := hel i f hi
            have hlt : i < fs.size := (Array.getElem?_eq_some_iff.1 hi).1
            rw [List.getElem?_eq_getElem (by omega)] at h3
            exact rowB_ok n hp h3) (by omega)
          refine ⟨x, ?_, g2⟩
          have : (cs.drop 0).take q.width = cs := by rw [List.drop_zero, List.take_of_length_le (by omega)]
          rwa [this] at g1
      | _ => simp [hu] at h

end Go.TM

/- The tree machine, part 43: a law's row. -/
namespace Go.TM
open Go Go.RowKit Go.ChangeShapes

mutual
theorem Ty.eq?_self : (t : Ty) → Ty.eq? t t = some ⟨rfl⟩
  | .int k => by simp [Ty.eq?]
  | .bool => rfl
  | .str => rfl
  | .sl r => by simp [Ty.eq?, RT.eq?_self r]
theorem RT.eq?_self : (r : RT) → RT.eq? r r = some ⟨rfl⟩
  | .nil => rfl
  | .cons t r => by simp [RT.eq?, Ty.eq?_self t, RT.eq?_self r]
end

theorem castL_self (r : RT) (xs : List (denR r)) : castL r xs = some xs := by
  unfold castL
  rw [RT.eq?_self]

theorem castOs_cons {p : OP} {ps : List OP} {t : RT} {o : OV} {os : List OV} {y : denR t} {x : den p.ty} {z : denR (opsRT ps t)} (h1 : castO p o = some x) (h2 : castOs ps t os y = some z) : castOs (p :: ps) t (o :: os) y = some ((x, z) : denR (opsRT (p :: ps) t)) := by
  unfold castOs
  rw [h1, h2]
  rfl

theorem castO_int {k : IntKind} {n : Int} : castO (.int k) (.int k n) = some n := if_pos rfl

/-- Read alone, all of it. -/
def shrOps : RT → List OP
  | .nil => []
  | .cons (.int k) r => .int k :: shrOps r
  | .cons .bool r => .bool :: shrOps r
  | .cons .str r => .str :: shrOps r
  | .cons (.sl q) r => .shr q :: shrOps r

/-- Nobody owns anything. -/
def Cz.free : Cz := { bx := fun _ => 0, lc := fun _ _ => .nil, own := fun _ => none }

theorem hold_shr {w : World} {f : Nat → Lb} : (r : RT) → (t : RT) → (j : Nat) → (vs : List Value) → (x : denR r) → (y : denR t) → RepVs w (fun _ => True) r vs x → SzR r x →
    ∃ z : denR (opsRT (shrOps r) t), HoldL Cz.free w f j (opsOV (shrOps r) t z).1 vs ∧ castOs (shrOps r) t (opsOV (shrOps r) t z).1 y = some z ∧ (SzR t y → SzR (opsRT (shrOps r) t) z)
  | .nil, t, j, vs, x, y, h, _ => by
    have : vs = [] := h
    subst this
    exact ⟨y, rfl, rfl, id⟩
  | .cons ty r, t, j, vs, x, y, h, hs => by
    obtain ⟨v, l, rfl, h1, h2⟩ := h
    obtain ⟨s1, s2⟩ := szCons.1 hs
    obtain ⟨z, g1, g2, g3⟩ := hold_shr (f := f) r t (j + 1) l x.2 y h2 s2
    cases ty with
    | int k =>
      refine ⟨(x.1, z), ⟨l, by rw [repInt.1 h1], g1⟩, ?_, fun hy => szCons.2 ⟨s1, g3 hy⟩⟩
      exact castOs_cons (p := .int k) (o := .int k x.1) (castO_int) g2
    | bool =>
      refine ⟨(x.1, z), ⟨l, by rw [repBool.1 h1], g1⟩, ?_, fun hy => szCons.2 ⟨s1, g3 hy⟩⟩
      exact castOs_cons (p := .bool) (o := .bool x.1) (rfl) g2
    | str =>
      refine ⟨(x.1, z), ⟨l, by rw [repStr.1 h1], g1⟩, ?_, fun hy => szCons.2 ⟨s1, g3 hy⟩⟩
      exact castOs_cons (p := .str) (o := .str x.1) (rfl) g2
    | sl q =>
      refine ⟨(x.1, z), ⟨v, l, rfl, RepTy.stays ⟨Nat.le_refl _, fun _ _ _ => rfl, fun _ _ _ => rfl⟩ _ _ _ h1, g1⟩, ?_, fun hy => szCons.2 ⟨s1, g3 hy⟩⟩
      exact castOs_cons (p := .shr q) (o := .shr q x.1) (castL_self q x.1) g2

def OP.same : OP → OP → Bool
  | .int k, .int l => decide (k = l)
  | .bool, .bool => true
  | .str, .str => true
  | .shr r, .shr s => (RT.eq? r s).isSome
  | _, _ => false
theorem OP.same_ok {p q : OP} (h : p.same q = true) : p = q := by
  cases p <;> cases q <;> simp [OP.same] at h
  · rw [h]
  · rfl
  · rfl
  · rename_i r s
    obtain ⟨⟨e⟩, _⟩ := Option.isSome_iff_exists.1 h
    rw [e]
def opsSame : List OP → List OP → Bool
  | [], [] => true
  | p :: l, q :: m => p.same q && opsSame l m
  | _, _ => false
theorem opsSame_ok : (l m : List OP) → opsSame l m = true → l = m
  | [], [], _ => rfl
  | p :: l, q :: m, h => by
    unfold opsSame at h
    rw [Bool.and_eq_true] at h
    rw [OP.same_ok h.1, opsSame_ok l m h.2]
  | [], _ :: _, h => by simp [opsSame] at h
  | _ :: _, [], h => by simp [opsSame] at h

/-- The patterns of a law's parameters. -/
def psB (P : Program) : List TypeId → List AP → Bool
  | [], [] => true
  | t :: ts, .val agg os :: ps => (match rowB P 30 t with
      | some r => opsSame (shrOps r) os
      | none => false) && ((match P.underlying t with | some (.struct _) => agg | _ => !agg) && (P.readableRec t && (Nat.blt t P.types.size && psB P ts ps)))
  | _, _ => false

theorem one_cell {P : Program} {w : World} {r : Reach} {b : Nat} {t : TypeId} {v : Value} {rt : RT} (hn : rowB P 30 t = some rt) (hs : ∀ fs, P.underlying t ≠ some (.struct fs)) (h : Value.okWide P w r b t v) : v.cells.toList = [v] := by
  cases hu : P.underlying t with
  | none => simp [rowB, hu] at hn
  | some d =>
    cases v <;> try rfl
    rename_i cs
    exfalso
    cases d <;> first | exact hs _ hu | (simp [rowB, hu] at hn; done) | (simp [Value.okWide, hu, Cell.okWide, Cell.ok] at h)

theorem args_hold {H : Type} {enc : TypeId × Value → H} {P : Program} {w : World} {lc : Nat → Nat → Loc} : (ts : List TypeId) → (ps : List AP) → psB P ts ps = true → (i : Nat) → (vs : List Value) → (ds : List (DataW H)) → (p : List MemPlace) →
    (∀ (j : Nat) t v, ts[j]? = some t → vs[j]? = some v → ∃ b, Value.okWide P w .any b t v) → DataW.TrodAll enc P w 0 (fun _ => true) true ts vs ds p →
    ∃ (x : denR (headRT (ps.map some))) (avs : List AV), castAs ps avs = some x ∧ HoldAs Cz.free w lc i avs vs ∧ SzR (headRT (ps.map some)) x
  | [], [], _, i, vs, ds, p, _, hA => by
    obtain ⟨rfl, _, _⟩ := trodAll_nil hA
    exact ⟨(), [], rfl, rfl, szNil _⟩
  | [], _ :: _, hb, _, _, _, _, _, _ => by simp [psB] at hb
  | t :: ts, [], hb, _, _, _, _, _, _ => by simp [psB] at hb
  | t :: ts, .io _ :: _, hb, _, _, _, _, _, _ => by simp [psB] at hb
  | t :: ts, .box _ _ :: _, hb, _, _, _, _, _, _ => by simp [psB] at hb
  | t :: ts, .lend _ :: _, hb, _, _, _, _, _, _ => by simp [psB] at hb
  | t :: ts, .val agg os :: ps, hb, i, vs, ds, p, hval, hA => by
    obtain ⟨v, vs', d, ds', p', q', rfl, rfl, rfl, h1, h2⟩ := trodAll_cons hA
    unfold psB at hb
    rw [Bool.and_eq_true, Bool.and_eq_true, Bool.and_eq_true, Bool.and_eq_true] at hb
    obtain ⟨b1, b2, _, _, b5⟩ := hb
    obtain ⟨y, avs, g1, g2, g3⟩ := args_hold (lc := lc) ts ps b5 (i + 1) vs' ds' q' (fun j t v ht hv => hval (j + 1) t v (by simpa using ht) (by simpa using hv)) h2
    obtain ⟨b0, hok⟩ := hval 0 t v rfl rfl
    cases hr : rowB P 30 t with
    | none => rw [hr] at b1; cases b1
    | some r =>
      rw [hr] at b1
      have hos := opsSame_ok _ _ b1
      subst hos
      obtain ⟨fuel, hd⟩ := h1
      obtain ⟨x, hx1, hx2⟩ := rowB_ok 30 hr hd
      obtain ⟨z, k1, k2, k3⟩ := hold_shr (f := .pend i) r (headRT (ps.map some)) 0 v.cells.toList x y hx1 hx2
      cases agg with
      | false =>
        have hs : ∀ fs, P.underlying t ≠ some (.struct fs) := by
          intro fs e
          rw [e] at b2
          cases b2
        rw [one_cell hr hs hok] at k1
        refine ⟨z, .val false (opsOV (shrOps r) (headRT (ps.map some)) z).1 :: avs, ?_, ⟨v, vs', rfl, k1, g2⟩, k3 g3⟩
        show (match castAs ps avs with | some y => castA (.val false (shrOps r)) (headRT (ps.map some)) (.val false _) y | none => none) = _
        rw [g1]
        exact k2
      | true =>
        obtain ⟨fs, hu⟩ : ∃ fs, P.underlying t = some (.struct fs) := by
          cases hu : P.underlying t with
          | none => rw [hu] at b2; cases b2
          | some d =>
            rw [hu] at b2
            cases d <;> first | exact ⟨_, rfl⟩ | cases b2
        obtain ⟨cs, rfl, _⟩ : ∃ cs, v = .agg cs ∧ True := by
          unfold Value.okWide at hok
          rw [hu] at hok
          obtain ⟨cs, e, _⟩ := hok
          exact ⟨cs, e, trivial⟩
        refine ⟨z, .val true (opsOV (shrOps r) (headRT (ps.map some)) z).1 :: avs, ?_, ⟨.agg cs, vs', rfl, ⟨cs, rfl, k1⟩, g2⟩, k3 g3⟩
        show (match castAs ps avs with | some y => castA (.val true (shrOps r)) (headRT (ps.map some)) (.val true _) y | none => none) = _
        rw [g1]
        exact k2

theorem args_stay {H : Type} {enc : TypeId × Value → H} {P : Program} (hl : laidOutB P = true) {W W' : World} (hb : Below W.heap.size W W') : (ts : List TypeId) → (ps : List AP) → psB P ts ps = true → (vs : List Value) → (ds : List (DataW H)) → (p : List MemPlace) → (∀ x ∈ p, x.block < W.heap.size) →
    DataW.TrodAll enc P W 0 (fun _ => true) true ts vs ds p → DataW.TrodAll enc P W' 0 (fun b => decide (b < W.heap.size)) true ts vs ds p
  | [], [], _, vs, ds, p, _, hA => by
    obtain ⟨rfl, rfl, rfl⟩ := trodAll_nil hA
    exact trodAll_mk0
  | [], _ :: _, hb, _, _, _, _, _ => by simp [psB] at hb
  | t :: ts, [], hb, _, _, _, _, _ => by simp [psB] at hb
  | t :: ts, .io _ :: _, hb, _, _, _, _, _ => by simp [psB] at hb
  | t :: ts, .box _ _ :: _, hb, _, _, _, _, _ => by simp [psB] at hb
  | t :: ts, .lend _ :: _, hb, _, _, _, _, _ => by simp [psB] at hb
  | t :: ts, .val agg os :: ps, hp, vs, ds, p, hlt, hA => by
    obtain ⟨v, vs', d, ds', p', q', rfl, rfl, rfl, h1, h2⟩ := trodAll_cons hA
    unfold psB at hp
    rw [Bool.and_eq_true, Bool.and_eq_true, Bool.and_eq_true, Bool.and_eq_true] at hp
    obtain ⟨_, _, b3, b4, b5⟩ := hp
    exact trodAll_cons_mk (Below.trod hl b3 (Nat.le_of_ble_eq_true b4) h1 hb (fun x hx => hlt x (List.mem_append_left _ hx))) (args_stay hl hb ts ps b5 vs' ds' q' (fun x hx => hlt x (List.mem_append_right _ hx)) h2)

theorem extRT_nil : (ps : List AP) → (ts : List TypeId) → {P : Program} → psB P ts ps = true → extRT ps = .nil
  | [], _, _, _ => rfl
  | .val _ _ :: ps, t :: ts, P, h => by
    unfold psB at h
    rw [Bool.and_eq_true, Bool.and_eq_true, Bool.and_eq_true, Bool.and_eq_true] at h
    exact extRT_nil ps ts h.2.2.2.2
  | .val _ _ :: _, [], _, h => by simp [psB] at h
  | .io _ :: _, [], _, h => by simp [psB] at h
  | .io _ :: _, _ :: _, _, h => by simp [psB] at h
  | .box _ _ :: _, [], _, h => by simp [psB] at h
  | .box _ _ :: _, _ :: _, _, h => by simp [psB] at h
  | .lend _ :: _, [], _, h => by simp [psB] at h
  | .lend _ :: _, _ :: _, _, h => by simp [psB] at h

/-- A LAW: it answers true, whatever it is handed; what stood stands. -/
theorem law_calls {H : Type} {enc : TypeId × Value → H} {P : Program} (hl : laidOutB P = true) {f : FuncId} {ps : List AP} {s : Nat} {t : denR (headRT (ps.map some)) → Option (denR (resRT [{ src := .tmp s, agg := false, ps := [.bool] }] (extRT ps)))}
    (hk : Known P f (semOf ps [{ src := .tmp s, agg := false, ps := [.bool] }] t)) {ts : List TypeId} (hps : psB P ts ps = true) (hlaw : ∀ x, SzR (headRT (ps.map some)) x → ∃ y, t x = some y ∧ y.1 = true)
    {W : World} {base : Nat} {args : Array Value} {ds : List (DataW H)} {p : List MemPlace} (hval : ∀ (j : Nat) t v, ts[j]? = some t → args[j]? = some v → Value.okWide P W .any base t v)
    (hA : DataW.TrodAll enc P W 0 (fun _ => true) true ts args.toList ds p) (hlt : ∀ x ∈ p, x.block < W.heap.size) :
    Calls P f args W fun e W' => e = .returned (.bool true) ∧ Below W.heap.size W W' ∧ DataW.TrodAll enc P W' 0 (fun b => decide (b < W.heap.size)) true ts args.toList ds p := by
  obtain ⟨x, avs, h1, h2, h3⟩ := args_hold (lc := fun _ _ => .nil) ts ps hps 0 args.toList ds p (fun j t v ht hv => ⟨base, hval j t v ht (by rwa [Array.getElem?_toList] at hv)⟩) hA
  obtain ⟨y, hy, hy1⟩ := hlaw x h3
  let μ : Mu := { m := fun _ => False, ok := fun _ => True, an := [] }
  have hH : Handed Cz.free W μ := {
    m := fun b => ⟨fun h => h.elim, fun ⟨l, h, _⟩ => by cases h⟩
    ok := fun b => ⟨fun _ => rfl, fun _ => trivial⟩
    lt := fun b l h => by cases h
    lb := fun b l h => by cases h }
  have hs : semOf ps [{ src := .tmp s, agg := false, ps := [.bool] }] t avs = some { r := resRT [{ src := .tmp s, agg := false, ps := [.bool] }] (extRT ps), o := t x, res := fun y => { outs := (outsOf [{ src := .tmp s, agg := false, ps := [.bool] }] (extRT ps) y).1, exts := extsOf ps (outsOf [{ src := .tmp s, agg := false, ps := [.bool] }] (extRT ps) y).2 } } := by
    unfold semOf
    rw [h1]
  refine (hk.ok Cz.free W μ (fun _ _ => .nil) avs args _ y hH h2 hs hy).mono fun e W' ⟨v, he, c', hb, hV, _⟩ => ?_
  have hbel : Below W.heap.size W W' := ⟨hb.kept.1, hb.kept.2.1, hb.kept.2.2.1, hb.kept.2.2.2, fun k hk => hb.old k hk (fun h => h.elim)⟩
  have hv : v = .bool true := by
    have hV : HoldV c' W' [.one (.bool y.1)] v := hV
    rcases hV with ⟨r, e1, g⟩ | ⟨g, _⟩
    · simp only [List.cons.injEq, and_true] at e1
      subst e1
      obtain ⟨v', l, e2, g2, _⟩ := g
      simp only [List.cons.injEq] at e2
      obtain ⟨e2, _⟩ := e2
      obtain ⟨l', g3, _⟩ := g2
      simp only [List.cons.injEq] at g3
      rw [e2, g3.1, hy1]
    · simp at g
  exact ⟨by rw [he, hv], hbel, args_stay hl hbel ts ps hps args.toList ds p hlt hA⟩

end Go.TM

/- The tree machine, part 44: plain helps for loops and numbers. -/
namespace Go.TM
open Go

theorem wrap_id {a : Int} (h1 : -9223372036854775808 ≤ a) (h2 : a < 9223372036854775808) : IntKind.i64.wrap a = a := by
  rw [IntKind.wrap_i64]
  omega

theorem wrap_u8 {a : Int} (h1 : 0 ≤ a) (h2 : a < 256) : IntKind.u8.wrap a = a := by
  unfold IntKind.wrap
  simp [IntKind.bits, IntKind.signed]
  omega

theorem wf_i64 {n : Int} (h : (Lit.int .i64 n).wf = true) : -9223372036854775808 ≤ n ∧ n < 9223372036854775808 := by
  simp only [Lit.wf, Bool.and_eq_true, decide_eq_true_eq] at h
  have h1 : IntKind.i64.min = -9223372036854775808 := rfl
  have h2 : IntKind.i64.max = 9223372036854775807 := rfl
  omega

/-- A loop that counts up: 'st k' is its state in round k, 'g k' what it comes to from there. -/
theorem loop_ind {X E : Type} {round : X → Option (Sum X E)} {n : Nat} (st : Nat → X) (g : Nat → Option E) (hend : ∃ e, round (st n) = some (.inr e) ∧ g n = some e)
    (hstep : ∀ k, k < n → (∃ e, round (st k) = some (.inr e) ∧ g k = some e) ∨ (round (st k) = some (.inl (st (k + 1))) ∧ g k = g (k + 1))) : ∀ k, k ≤ n → loopV round (st k) = g k := by
  have key : ∀ d k, k + d = n → loopV round (st k) = g k := by
    intro d
    induction d with
    | zero =>
      intro k hk
      have : k = n := by omega
      subst this
      obtain ⟨e, h1, h2⟩ := hend
      rw [loopV_eq, h1, h2]
    | succ d ih =>
      intro k hk
      rcases hstep k (by omega) with ⟨e, h1, h2⟩ | ⟨h1, h2⟩
      · rw [loopV_eq, h1, h2]
      · rw [loopV_eq, h1, h2]
        exact ih (k + 1) (by omega)
  intro k hk
  exact key (n - k) k (by omega)

/-- A loop that runs to its end. -/
theorem loop_run {X E : Type} {round : X → Option (Sum X E)} (n : Nat) (st : Nat → X) {e : E} (hend : round (st n) = some (.inr e))
    (hstep : ∀ k, k < n → round (st k) = some (.inl (st (k + 1)))) : loopV round (st 0) = some e :=
  loop_ind st (fun _ => some e) ⟨e, hend, rfl⟩ (fun k hk => .inr ⟨hstep k hk, rfl⟩) 0 (Nat.zero_le _)

/-- A loop with an invariant of its state and the number of its round. -/
theorem loop_inv {X E : Type} {round : X → Option (Sum X E)} (n : Nat) (I : Nat → X → Prop) (Q : E → Prop) (hend : ∀ x, I n x → ∃ e, round x = some (.inr e) ∧ Q e)
    (hstep : ∀ k x, k < n → I k x → (∃ e, round x = some (.inr e) ∧ Q e) ∨ (∃ y, round x = some (.inl y) ∧ I (k + 1) y)) {x : X} (h : I 0 x) : ∃ e, loopV round x = some e ∧ Q e := by
  have key : ∀ d k x, k + d = n → I k x → ∃ e, loopV round x = some e ∧ Q e := by
    intro d
    induction d with
    | zero =>
      intro k x hk hI
      have : k = n := by omega
      subst this
      obtain ⟨e, h1, h2⟩ := hend x hI
      exact ⟨e, by rw [loopV_eq, h1], h2⟩
    | succ d ih =>
      intro k x hk hI
      rcases hstep k x (by omega) hI with ⟨e, h1, h2⟩ | ⟨y, h1, h2⟩
      · exact ⟨e, by rw [loopV_eq, h1], h2⟩
      · obtain ⟨e, h3, h4⟩ := ih (k + 1) y (by omega) h2
        exact ⟨e, by rw [loopV_eq, h1]; exact h3, h4⟩
  exact key n 0 x (by omega) h

theorem outK_inl {A B C : Type} {a : A} {f : A → Option C} {g : B → Option C} : outK (some (.inl a)) f g = f a := rfl
theorem outK_inr {A B C : Type} {b : B} {f : A → Option C} {g : B → Option C} : outK (some (.inr b)) f g = g b := rfl

theorem dec_true {p : Prop} [Decidable p] (h : p) : decide p = true := decide_eq_true h
theorem dec_false {p : Prop} [Decidable p] (h : ¬ p) : decide p = false := decide_eq_false h

theorem toNat_nat (k : Nat) : Int.toNat ((k : Nat) : Int) = k := rfl
theorem blt_true {a b : Nat} (h : a < b) : Nat.blt a b = true := Nat.ble_eq_true_of_le h
theorem ble_true {a b : Nat} (h : a ≤ b) : Nat.ble a b = true := Nat.ble_eq_true_of_le h
theorem zero_le_nat (k : Nat) : decide ((0 : Int) ≤ ((k : Nat) : Int)) = true := dec_true (by omega)
theorem lt_nat_true {k n : Nat} (h : k < n) : decide (((k : Nat) : Int) < ((n : Nat) : Int)) = true := dec_true (by omega)
theorem lt_nat_irr (n : Nat) : decide (((n : Nat) : Int) < ((n : Nat) : Int)) = false := dec_false (by omega)
theorem succ_wrap {k : Nat} (h : k < 4611686018427387904) : IntKind.i64.wrap (((k : Nat) : Int) + (1 : Int)) = (((k + 1 : Nat)) : Int) := by
  rw [wrap_id] <;> omega

theorem bytes_loop (bs : ByteArray) : ∀ (d i : Nat) (r : List UInt8), bs.size - i = d → ByteArray.toList.loop bs i r = r.reverse ++ bs.data.toList.drop i
  | 0, i, r, h => by
    unfold ByteArray.toList.loop
    rw [if_neg (by omega)]
    have : bs.data.toList.drop i = [] := List.drop_of_length_le (by
      have : bs.data.toList.length = bs.size := Array.length_toList
      omega)
    rw [this, List.append_nil]
  | d + 1, i, r, h => by
    unfold ByteArray.toList.loop
    have hlt : i < bs.size := by omega
    rw [if_pos hlt, bytes_loop bs d (i + 1) _ (by omega)]
    have hlt2 : i < bs.data.toList.length := by
      have : bs.data.toList.length = bs.size := Array.length_toList
      omega
    rw [List.reverse_cons, List.append_assoc, List.drop_eq_getElem_cons hlt2]
    congr 2
    simp [ByteArray.get!, hlt]

theorem bytes_list (bs : ByteArray) : bs.toList = bs.data.toList := by
  unfold ByteArray.toList
  rw [bytes_loop bs _ 0 [] rfl]
  simp

theorem strEq_iff {a b : ByteArray} : strEq a b = true ↔ a = b := by
  unfold strEq
  rw [beq_iff_eq]
  constructor
  · intro h
    rw [bytes_list, bytes_list] at h
    obtain ⟨⟨x⟩⟩ := a
    obtain ⟨⟨y⟩⟩ := b
    exact congrArg (fun l => ByteArray.mk ⟨l⟩) h
  · intro h; rw [h]
theorem strEq_self (a : ByteArray) : strEq a a = true := strEq_iff.2 rfl

theorem copy_set {α : Type} (a : List α) (z : α) {k : Nat} (hk : k < a.length) : List.set (a.take k ++ List.replicate (a.length - k) z) k a[k] = a.take (k + 1) ++ List.replicate (a.length - (k + 1)) z := by
  have h1 : (a.take k).length = k := by simp; omega
  have h2 : a.length - k = (a.length - (k + 1)) + 1 := by omega
  rw [List.set_append, if_neg (by omega), h1, Nat.sub_self, h2, List.replicate_succ, List.set_cons_zero, List.take_succ_eq_append_getElem hk, List.append_assoc]
  rfl

/-- The sum of a measure over a list. -/
def wl {α : Type} (f : α → Nat) (xs : List α) : Nat := xs.foldr (fun x n => f x + n) 0
theorem wl_nil {α : Type} (f : α → Nat) : wl f [] = 0 := rfl
theorem wl_cons {α : Type} (f : α → Nat) (x : α) (xs : List α) : wl f (x :: xs) = f x + wl f xs := rfl
theorem wl_app {α : Type} (f : α → Nat) (xs ys : List α) : wl f (xs ++ ys) = wl f xs + wl f ys := by
  induction xs with
  | nil => simp [wl]
  | cons x xs ih =>
    show f x + wl f (xs ++ ys) = f x + wl f xs + wl f ys
    rw [ih]; omega
theorem wl_take {α : Type} (f : α → Nat) (xs : List α) {k : Nat} (hk : k < xs.length) : wl f (xs.take (k + 1)) = wl f (xs.take k) + f xs[k] := by
  rw [List.take_succ_eq_append_getElem hk, wl_app]
  rfl
theorem wl_mem {α : Type} (f : α → Nat) (xs : List α) : ∀ x ∈ xs, f x ≤ wl f xs := by
  induction xs with
  | nil => intro x h; cases h
  | cons y xs ih =>
    intro x h
    show f x ≤ f y + wl f xs
    rcases List.mem_cons.1 h with rfl | h
    · omega
    · have := ih x h; omega
theorem wl_zero {α : Type} (f : α → Nat) (h : ∀ x, f x = 0) (xs : List α) : wl f xs = 0 := by
  induction xs with
  | nil => rfl
  | cons y xs ih => show f y + wl f xs = 0; rw [h, ih]

theorem sz_len {r : RT} {xs : List (denR r)} (h : SzTy (.sl r) xs) : xs.length ≤ 9223372036854775807 := (szSl.1 h).1
theorem sz_el {r : RT} {xs : List (denR r)} (h : SzTy (.sl r) xs) : ∀ x ∈ xs, SzR r x := (szSl.1 h).2
theorem sz_str {s : ByteArray} (h : SzTy .str s) : ByteArray.size s ≤ 9223372036854775807 := szStr.1 h
theorem sz_int {n : Int} (h : SzTy (.int .i64) n) : -9223372036854775808 ≤ n ∧ n < 9223372036854775808 := wf_i64 (szInt.1 h)

/-- A size that is counted down: what is left, or -1. -/
def Left (o : Option (Int × Unit)) (wt : Nat) (left : Int) : Prop := ∃ m, o = some (m, ()) ∧ -1 ≤ m ∧ (0 ≤ m → (wt : Int) + m ≤ left)

/-- Two loops side by side. -/
theorem loop_two {X Y E F : Type} {r1 : X → Option (Sum X E)} {r2 : Y → Option (Sum Y F)} (n : Nat) (R : Nat → X → Y → Prop) (Q : E → F → Prop)
    (hstep : ∀ k x y, k ≤ n → R k x y → (∃ e f, r1 x = some (.inr e) ∧ r2 y = some (.inr f) ∧ Q e f) ∨ (k < n ∧ ∃ x' y', r1 x = some (.inl x') ∧ r2 y = some (.inl y') ∧ R (k + 1) x' y')) {x : X} {y : Y} (h : R 0 x y) :
    ∃ e f, loopV r1 x = some e ∧ loopV r2 y = some f ∧ Q e f := by
  have key : ∀ d k x y, k + d = n → R k x y → ∃ e f, loopV r1 x = some e ∧ loopV r2 y = some f ∧ Q e f := by
    intro d
    induction d with
    | zero =>
      intro k x y hk hR
      rcases hstep k x y (by omega) hR with ⟨e, f, h1, h2, h3⟩ | ⟨hlt, _⟩
      · exact ⟨e, f, by rw [loopV_eq, h1], by rw [loopV_eq, h2], h3⟩
      · omega
    | succ d ih =>
      intro k x y hk hR
      rcases hstep k x y (by omega) hR with ⟨e, f, h1, h2, h3⟩ | ⟨_, x', y', h1, h2, h3⟩
      · exact ⟨e, f, by rw [loopV_eq, h1], by rw [loopV_eq, h2], h3⟩
      · obtain ⟨e, f, g1, g2, g3⟩ := ih (k + 1) x' y' (by omega) h3
        exact ⟨e, f, by rw [loopV_eq, h1]; exact g1, by rw [loopV_eq, h2]; exact g2, g3⟩
  exact key n 0 x y (by omega) h

end Go.TM

/- The tree machine, part 45: structs of numbers, bools and strings, compared. -/
namespace Go.TM
open Go Go.RowKit

def fieldsEqB (P : Program) : Nat → RT → List Field → Bool
  | _, .nil, [] => true
  | off, .cons t r, f :: fs => Nat.beq f.offset off && ((f.name != "_") && (P.plainKey f.type && (kindB P f.type t && fieldsEqB P (off + 1) r fs)))
  | _, _, _ => false

def structEqB (P : Program) (t : TypeId) (r : RT) : Bool :=
  match P.underlying t with
  | some (.struct fs) => !P.stoodInHeld t && (!P.eqGuardType P.depth t && fieldsEqB P 0 r fs.toList)
  | _ => false

def recEq (P : Program) (t : Nat) (r : Rec) : Bool := !r.eq || (match r.row with | some q => structEqB P t q | none => false)

theorem cell_equal {P : Program} {c : Cz} {st : St} {w w' : World} {t : TypeId} {ty : Ty} {d : Nat} {a b : CV} {x y : Value} {r : Bool} {q : RT} {l : List CV} (hk : kindB P t ty = true) (hf : fitsR (.cons ty q) (a :: l) = true) (h : cellEq a b = some r) (hx : RelC c st w a x) (hy : RelC c st w b y) :
    (Op.equalIn (d + 1) t x y).run P w' = .ok r w' ∧ fitsR q l = true := by
  cases ty with
  | sl _ => cases a <;> simp [fitsR] at hf
  | int k =>
    obtain ⟨e, he, h2⟩ := optIs_ok hk
    cases a <;> try (simp [fitsR] at hf; done)
    rename_i k1 n
    simp only [fitsR, Bool.and_eq_true, decide_eq_true_eq] at hf
    cases b <;> try (simp [cellEq] at h; done)
    rename_i k2 m
    simp only [cellEq] at h
    split at h
    · rename_i hkk
      subst hkk
      cases h
      cases e <;> simp at h2
      have hx : x = .int k1 n := hx
      have hy : y = .int k1 m := hy
      subst hx hy
      refine ⟨?_, hf.2⟩
      rw [run_equalIn_int w' d t k1 _ n m he]
      congr 1
    · cases h
  | bool =>
    obtain ⟨e, he, h2⟩ := optIs_ok hk
    cases a <;> try (simp [fitsR] at hf; done)
    cases b <;> try (simp [cellEq] at h; done)
    rename_i p q'
    simp only [cellEq, Option.some.injEq] at h
    subst h
    cases e <;> simp at h2
    have hx : x = .bool p := hx
    have hy : y = .bool q' := hy
    subst hx hy
    exact ⟨run_equalIn_bool' w' d t p q' he, hf⟩
  | str =>
    obtain ⟨e, he, h2⟩ := optIs_ok hk
    cases a <;> try (simp [fitsR] at hf; done)
    cases b <;> try (simp [cellEq] at h; done)
    rename_i p q'
    simp only [cellEq, Option.some.injEq] at h
    subst h
    cases e <;> simp at h2
    have hx : x = .string p := hx
    have hy : y = .string q' := hy
    subst hx hy
    exact ⟨run_equalIn_string w' d t p q' he, hf⟩

theorem fields_equal {P : Program} {c : Cz} {st : St} {w w' : World} {d : Nat} {us vs : Array Value} : (fs : List Field) → (off : Nat) → (q : RT) → (l m : List CV) → {b : Bool} → fieldsEqB P off q fs = true → fitsR q l = true → cellsEq l m = some b →
    RelL c st w l (us.toList.drop off) → RelL c st w m (vs.toList.drop off) → (Op.eqFields (d + 1) us vs fs).run P w' = .ok b w'
  | [], off, q, l, m, b, hf, hfit, hc, hl, hm => by
    cases q with
    | cons t r => cases t <;> simp [fieldsEqB] at hf
    | nil =>
      cases l with
      | cons _ _ => simp [fitsR] at hfit
      | nil => cases m with
        | cons _ _ => simp [cellsEq] at hc
        | nil =>
          simp only [cellsEq, Option.some.injEq] at hc
          subst hc
          simp [Op.eqFields]
  | f :: fs, off, q, l, m, b, hf, hfit, hc, hl, hm => by
    cases q with
    | nil => simp [fieldsEqB] at hf
    | cons t r =>
      unfold fieldsEqB at hf
      rw [Bool.and_eq_true, Bool.and_eq_true, Bool.and_eq_true, Bool.and_eq_true] at hf
      obtain ⟨h1, h2, h3, h4, h5⟩ := hf
      have h1 := Nat.eq_of_beq_eq_true h1
      cases l with
      | nil => cases t <;> simp [fitsR] at hfit
      | cons x l => cases m with
        | nil => simp [cellsEq] at hc
        | cons y m =>
          simp only [cellsEq] at hc
          cases he : cellEq x y with
          | none => simp [he] at hc
          | some b1 =>
            cases hes : cellsEq l m with
            | none => simp [he, hes] at hc
            | some b2 =>
              simp only [he, hes, Option.some.injEq] at hc
              subst hc
              have hul : off < us.size := by
                have := hl.1
                simp at this
                omega
              have hvl : off < vs.size := by
                have := hm.1
                simp at this
                omega
              have hdu : us.toList.drop off = us[off] :: us.toList.drop (off + 1) := by
                have : off < us.toList.length := by simpa using hul
                rw [List.drop_eq_getElem_cons this]
                simp
              have hdv : vs.toList.drop off = vs[off] :: vs.toList.drop (off + 1) := by
                have : off < vs.toList.length := by simpa using hvl
                rw [List.drop_eq_getElem_cons this]
                simp
              rw [hdu] at hl
              rw [hdv] at hm
              have rx := hl.2 0 x us[off] rfl rfl
              have ry := hm.2 0 y vs[off] rfl rfl
              obtain ⟨k1, k2⟩ := cell_equal (w' := w') (d := d) h4 hfit he rx ry
              have rl : RelL c st w l (us.toList.drop (off + 1)) := ⟨by have := hl.1; simpa using this, fun i a v ha hv => hl.2 (i + 1) a v (by simpa using ha) (by simpa using hv)⟩
              have rm : RelL c st w m (vs.toList.drop (off + 1)) := ⟨by have := hm.1; simpa using this, fun i a v ha hv => hm.2 (i + 1) a v (by simpa using ha) (by simpa using hv)⟩
              have ih := fields_equal (w' := w') (d := d) fs (off + 1) r l m h5 k2 hes rl rm
              unfold Op.eqFields
              rw [if_pos (by simpa using h2)]
              have p1 : (part f.type us f.offset).run P w' = .ok us[off] w' := run_part_plain w' h3 (by rw [h1]; exact Array.getElem?_eq_getElem hul)
              have p2 : (part f.type vs f.offset).run P w' = .ok vs[off] w' := run_part_plain w' h3 (by rw [h1]; exact Array.getElem?_eq_getElem hvl)
              simp only [Sem.run_bind, p1, p2, k1, Result.andThen_ok]
              cases b1
              · simp
              · simp [ih]

theorem eqs_ok {P : Program} {tr : Tr} (h : tr.all (recEq P) = true) : EqOk P (tabOf tr) := by
  intro t ht c st w l m us vs b op ox oy hfit hc hl hm w'
  have ht : (match tr.find t with | some r => r.eq | none => false) = true := ht
  cases hf : tr.find t with
  | none => rw [hf] at ht; cases ht
  | some r =>
    rw [hf] at ht
    have ht : r.eq = true := ht
    have h1 := Tr.all_find tr h hf
    unfold recEq at h1
    rw [ht, Bool.not_true, Bool.false_or] at h1
    unfold Tab.fits at hfit
    have hrow : (tabOf tr).row t = r.row := by show (match tr.find t with | some r => r.row | none => none) = _; rw [hf]
    rw [hrow] at hfit
    cases hq : r.row with
    | none => rw [hq] at h1; cases h1
    | some q =>
      rw [hq] at h1 hfit
      have h1 : structEqB P t q = true := h1
      have hfit : fitsR q l = true := hfit
      unfold structEqB at h1
      split at h1
      · rename_i fs hu
        rw [Bool.and_eq_true, Bool.and_eq_true, Bool.not_eq_true', Bool.not_eq_true'] at h1
        have hfo : P.fieldsOf t = fs := by unfold Program.fieldsOf; rw [hu]
        refine ⟨run_eqGuard_agg w' op t ox oy us vs h1.2.1, ?_⟩
        show (Op.equalIn (9999 + 1) t (.agg us) (.agg vs)).run P w' = .ok b w'
        rw [run_equalIn_struct w' 9999 t us vs (by rw [hfo]; exact hu) h1.1, hfo]
        exact fields_equal (d := 9998) fs.toList 0 q l m h1.2.2 hfit hc (by simpa using hl) (by simpa using hm)
      · cases h1

end Go.TM

/- The tree machine, part 46: functions that ask whether a slice is nil. -/
namespace Go.TM
open Go Go.RowKit

/-- The first parameter, as nil. -/
def startNil (n : Nat) (ps : List AP) (x : denR (headRT (ps.map some))) : St := setV (start n ps x) (some 0) (.one .nils)
/-- The first parameter, not nil. -/
def startNn (n : Nat) (r : RT) (xs : List (denR r)) (ps : List AP) (x : denR (headRT (ps.map some))) : St := setV (start n ps x) (some 0) (.one (.nn r xs))

theorem fn_auto_nil {P : Program} {tr : Tr} (hT : tr.all (recOk P) = true) (hE : EqOk P (tabOf tr)) (hm : P.follows .mixedOrders = true) {S : Sems} (hS : SemsOk P S) {D : Draws} {f : FuncId} {fn : Func} {code : Code} {n : Nat} {r : RT} {qs : List AP} {rs : List RP}
    {L : Loops (denR (resRT rs (extRT (.val false [.shr r] :: qs))))} {t : denR (headRT ((AP.val false [.shr r] :: qs).map some)) → Option (denR (resRT rs (extRT (.val false [.shr r] :: qs))))}
    (hf : P.funcs[f]? = some fn) (hb : fn.body = some code) (hchk : fnB (tabOf tr) D fn code n (.val false [.shr r] :: qs) rs = true) (hname : (fn.name == "runtime.NumGoroutine") = false)
    (hL : ∀ (w0 : World) (mu : Mu) (y : denR (resRT rs (extRT (.val false [.shr r] :: qs)))), AnShape (.val false [.shr r] :: qs) mu → ∀ p ∈ loopsIn code, LoopAt P w0 mu n L y p.1 p.2)
    (hnil : ∀ z, codeK (tabOf tr) S D L code (startNil n (.val false [.shr r] :: qs) (([] : List (denR r)), z)) (finK rs (.val false [.shr r] :: qs)) = t (([] : List (denR r)), z))
    (hnn : ∀ x, codeK (tabOf tr) S D L code (startNn n r x.1 (.val false [.shr r] :: qs) x) (finK rs (.val false [.shr r] :: qs)) = t x) : Known P f (semOf (.val false [.shr r] :: qs) rs t) := by
  unfold fnB at hchk
  rw [Bool.and_eq_true, Bool.and_eq_true, Bool.and_eq_true, Bool.and_eq_true] at hchk
  obtain ⟨h1, h2, h3, h4, h5⟩ := hchk
  refine ⟨fn_ok_at (tab_ok hT) hE hS hf hb (Nat.eq_of_beq_eq_true h1) (Nat.le_of_ble_eq_true h2) h3 (fun tm => resB_ok tm _ _ h4) (fun w0 mu y hs => codeLoops_of code (hL w0 mu y hs))
    (fun w0 mu => drawSound (tab_ok hT) hE hm (opSound (tab_ok hT) hE hS w0 mu n)) (codeDraw_of code h5) (fun w0 mu c a w x hR hn => ?_), fn, hf, hname, by rw [hb]; rfl⟩
  have hpos : 0 < n := by
    have := Nat.le_of_ble_eq_true h2
    simp at this
    omega
  have hreg := hR.regs 0
  have hg : getV (start n (.val false [.shr r] :: qs) x) 0 = .one (.shr r x.1) := rfl
  rw [hg] at hreg
  have hrep : RepTy w c.ok (.sl r) (a.eval (.tmp 0)) x.1 := hreg
  have h0 : 0 < a.tmps.size := by omega
  by_cases hv : a.eval (.tmp 0) = .slice none 0 0
  · refine ⟨c, startNil n (.val false [.shr r] :: qs) x, ?_, ?_⟩
    · have := hR.setV (d := some 0) (v := .one .nils) (u := a.eval (.tmp 0)) hv (fun k e => by cases e; exact h0)
      rwa [put_same a 0 _ h0 rfl] at this
    · have hx : x.1 = ([] : List (denR r)) := by
        rcases (repSl _ _ _ _ _).1 hrep with ⟨_, h⟩ | ⟨_, _, h, _⟩
        · exact h
        · rw [hv] at h; cases h
      obtain ⟨x1, z⟩ := x
      simp only at hx
      subst hx
      exact hnil z
  · refine ⟨c, startNn n r x.1 (.val false [.shr r] :: qs) x, ?_, hnn x⟩
    have := hR.setV (d := some 0) (v := .one (.nn r x.1)) (u := a.eval (.tmp 0)) ⟨hrep, hv⟩ (fun k e => by cases e; exact h0)
    rwa [put_same a 0 _ h0 rfl] at this

end Go.TM
