/- A ring's life, as the reference plays it: what its steps come to. -/
import Derived.Test.YtiljcjnnhkidbaaCPWorkNew
set_option linter.unusedSimpArgs false
set_option linter.unusedVariables false
namespace Go.TM
open Go
abbrev FlyR : Type := Int × Bool × Int × Int × Int × Int × Int × MemL × Int × Int × Int × ByteArray × Unit
abbrev HrdL : Type := List (ItemL × Unit)
abbrev WorkR : Type := Int × MemL × List MatR × List FlyR × HrdL × ItemL × Unit
def setM (w : WorkR) (k : Nat) (m : MatR) : WorkR := (w.1, w.2.1, w.2.2.1.set k m, w.2.2.2)
def setF (w : WorkR) (l : List FlyR) : WorkR := (w.1, w.2.1, w.2.2.1, l, w.2.2.2.2)
def setH (w : WorkR) (l : HrdL) : WorkR := (w.1, w.2.1, w.2.2.1, w.2.2.2.1, l, w.2.2.2.2.2)
def setS (w : WorkR) (l : ItemL) : WorkR := (w.1, w.2.1, w.2.2.1, w.2.2.2.1, w.2.2.2.2.1, l, ())
theorem at_val (w : WorkR) (h : w.2.2.1.length ≤ 1048576) (id : Int) : ∃ a, spec_l11At w.1 w.2.1 w.2.2.1 w.2.2.2.1 w.2.2.2.2.1 w.2.2.2.2.2.1 id = some (a, w.1, w.2.1, w.2.2.1, w.2.2.2.1, w.2.2.2.2.1, w.2.2.2.2.2.1, ()) ∧ ((a = -1 ∧ ∀ k (hk : k < w.2.2.1.length), (w.2.2.1[k]).1 ≠ id) ∨ ∃ k, ∃ hk : k < w.2.2.1.length, a = ((k : Nat) : Int) ∧ (w.2.2.1[k]).1 = id) := by
 obtain ⟨e, he, hq⟩ := loop_inv (round := spec_l11At_r0) (x := (w.1, w.2.1, w.2.2.1, w.2.2.2.1, w.2.2.2.2.1, w.2.2.2.2.2.1, id, ((0 : Nat) : Int), ())) w.2.2.1.length (fun k x => x = (w.1, w.2.1, w.2.2.1, w.2.2.2.1, w.2.2.2.2.1, w.2.2.2.2.2.1, id, ((k : Nat) : Int), ()) ∧ ∀ j (hj : j < w.2.2.1.length), j < k → (w.2.2.1[j]).1 ≠ id)
   (fun e => (e = .inl (w.1, w.2.1, w.2.2.1, w.2.2.2.1, w.2.2.2.2.1, w.2.2.2.2.2.1, ()) ∧ ∀ k (hk : k < w.2.2.1.length), (w.2.2.1[k]).1 ≠ id) ∨ ∃ k, ∃ hk : k < w.2.2.1.length, e = .inr (w.1, w.2.1, w.2.2.1, w.2.2.2.1, w.2.2.2.2.1, w.2.2.2.2.2.1, ((k : Nat) : Int), ()) ∧ (w.2.2.1[k]).1 = id) (by
     rintro x ⟨rfl, g⟩
     exact ⟨_, by simp only [spec_l11At_r0, spec_l11At_c0, lt_nat_irr, cond_false], .inl ⟨rfl, fun k hk => g k hk hk⟩⟩) (by
     rintro k x hk ⟨rfl, g⟩
     simp only [spec_l11At_r0, spec_l11At_c0, lt_nat_true hk, zero_le_nat, cond_true, toNat_nat, List.getElem?_eq_getElem hk, Option.bind_some, succ_wrap (show k < 4611686018427387904 by omega)]
     by_cases e : (w.2.2.1[k]).1 = id
     · rw [dec_true e]; exact .inl ⟨_, rfl, .inr ⟨k, hk, rfl, e⟩⟩
     · rw [dec_false e]; refine .inr ⟨_, rfl, rfl, fun j hj hjk => ?_⟩
       by_cases e2 : j < k
       · exact g j hj e2
       · have : j = k := by omega
         subst this; exact e) ⟨rfl, fun j hj h => by omega⟩
 have he : loopV spec_l11At_r0 (w.1, w.2.1, w.2.2.1, w.2.2.2.1, w.2.2.2.2.1, w.2.2.2.2.2.1, id, (0 : Int), ()) = some e := he; unfold spec_l11At; rw [he]; rcases hq with ⟨rfl, g⟩ | ⟨k, hk, rfl, g⟩
 · exact ⟨_, rfl, .inl ⟨rfl, g⟩⟩
 · exact ⟨_, rfl, .inr ⟨k, hk, rfl, g⟩⟩
theorem mate_val (w : WorkR) (h : w.2.2.1.length ≤ 1048576) {k : Nat} (hk : k < w.2.2.1.length) (m : MatR) : spec_l11Mate w.1 w.2.1 w.2.2.1 w.2.2.2.1 w.2.2.2.2.1 w.2.2.2.2.2.1 ((k : Nat) : Int) m.1 m.2.1 m.2.2.1 m.2.2.2.1 m.2.2.2.2.1 m.2.2.2.2.2.1 m.2.2.2.2.2.2.1 m.2.2.2.2.2.2.2.1 m.2.2.2.2.2.2.2.2.1 m.2.2.2.2.2.2.2.2.2.1 m.2.2.2.2.2.2.2.2.2.2.1 m.2.2.2.2.2.2.2.2.2.2.2.1 m.2.2.2.2.2.2.2.2.2.2.2.2.1 m.2.2.2.2.2.2.2.2.2.2.2.2.2.1 m.2.2.2.2.2.2.2.2.2.2.2.2.2.2.1 m.2.2.2.2.2.2.2.2.2.2.2.2.2.2.2.1 = some ((setM w k m).1, (setM w k m).2.1, (setM w k m).2.2.1, (setM w k m).2.2.2.1, (setM w k m).2.2.2.2.1, (setM w k m).2.2.2.2.2.1, ()) := by
 unfold spec_l11Mate; simp only [ble_true (show (0 + w.2.2.1.length) * 208 ≤ lim by unfold lim; omega), zero_le_nat, toNat_nat, List.nil_append, blt_true hk, List.getElem?_eq_getElem hk, Option.bind_some, cond_true]; rfl
def tellOne (ms : List MatR) (id : Int) (x : ItemR) : List FlyR := (ms.filter fun m => !decide (m.1 = id)).map fun m => (m.1, false, 0, 0, 0, 0, 0, [], x.1, x.2.1, x.2.2.1, x.2.2.2.1, ())
def tellL (ms : List MatR) (id : Int) (l : ItemL) : List FlyR := l.flatMap (tellOne ms id)
theorem tellOne_succ (ms : List MatR) (id : Int) (x : ItemR) {k : Nat} (hk : k < ms.length) : tellOne (ms.take (k + 1)) id x = tellOne (ms.take k) id x ++ (bif !decide (ms[k].1 = id) then [(ms[k].1, false, 0, 0, 0, 0, 0, [], x.1, x.2.1, x.2.2.1, x.2.2.2.1, ())] else []) := by
 unfold tellOne; rw [List.take_succ_eq_append_getElem hk, List.filter_append, List.map_append, List.filter_cons]
 cases decide (ms[k].1 = id) <;> rfl
theorem tellOne_len (ms : List MatR) (id : Int) (x : ItemR) : (tellOne ms id x).length ≤ ms.length := by
 unfold tellOne; rw [List.length_map]; exact List.length_filter_le _ _
theorem tellL_succ (ms : List MatR) (id : Int) (l : ItemL) {k : Nat} (hk : k < l.length) : tellL ms id (l.take (k + 1)) = tellL ms id (l.take k) ++ tellOne ms id l[k] := by
 unfold tellL; rw [List.take_succ_eq_append_getElem hk, List.flatMap_append]; simp
theorem tellL_len (ms : List MatR) (id : Int) (n : Nat) (hn : ms.length ≤ n) : (l : ItemL) → (tellL ms id l).length ≤ n * l.length
 | [] => Nat.zero_le _
 | x :: l => by
   have h1 := tellOne_len ms id x; have h2 := tellL_len ms id n hn l; show (tellOne ms id x ++ tellL ms id l).length ≤ n * (l.length + 1); rw [List.length_append, Nat.mul_succ]; omega
theorem tellL_mem {ms : List MatR} {id : Int} {l : ItemL} {f : FlyR} (h : f ∈ tellL ms id l) : ∃ m ∈ ms, ∃ x ∈ l, m.1 ≠ id ∧ f = (m.1, false, 0, 0, 0, 0, 0, [], x.1, x.2.1, x.2.2.1, x.2.2.2.1, ()) := by
 unfold tellL tellOne at h; obtain ⟨x, hx, h⟩ := List.mem_flatMap.1 h; obtain ⟨m, hm, rfl⟩ := List.mem_map.1 h; obtain ⟨hm, hn⟩ := List.mem_filter.1 hm; refine ⟨m, hm, x, hx, fun e => ?_, rfl⟩; rw [dec_true e] at hn
 cases hn
theorem tell_val (w : WorkR) (id : Int) (l : ItemL) (h1 : w.2.2.1.length ≤ 5) (h2 : w.2.2.2.1.length ≤ 1073741824) (h3 : l.length ≤ 1048576) : spec_l11Tell w.1 w.2.1 w.2.2.1 w.2.2.2.1 w.2.2.2.2.1 w.2.2.2.2.2.1 id l = some ((setF w (w.2.2.2.1 ++ tellL w.2.2.1 id l)).1, (setF w (w.2.2.2.1 ++ tellL w.2.2.1 id l)).2.1, (setF w (w.2.2.2.1 ++ tellL w.2.2.1 id l)).2.2.1, (setF w (w.2.2.2.1 ++ tellL w.2.2.1 id l)).2.2.2.1, (setF w (w.2.2.2.1 ++ tellL w.2.2.1 id l)).2.2.2.2.1, (setF w (w.2.2.2.1 ++ tellL w.2.2.1 id l)).2.2.2.2.2.1, ()) := by
 have inner : ∀ (fl : List FlyR) (i : Nat) (hi : i < l.length), fl.length ≤ 2147483648 → loopV spec_l11Tell_r2 (w.1, w.2.1, w.2.2.1, w.2.2.2.1, w.2.2.2.2.1, w.2.2.2.2.2.1, id, l, fl, ((i : Nat) : Int), (0 : Int), ()) = some (.inl (w.1, w.2.1, w.2.2.1, w.2.2.2.1, w.2.2.2.2.1, w.2.2.2.2.2.1, id, l, fl ++ tellOne w.2.2.1 id l[i], ((i : Nat) : Int), ())) := by
   intro fl i hi hf; have l1 := loop_run (round := spec_l11Tell_r2) (e := .inl (w.1, w.2.1, w.2.2.1, w.2.2.2.1, w.2.2.2.2.1, w.2.2.2.2.2.1, id, l, fl ++ tellOne w.2.2.1 id l[i], ((i : Nat) : Int), ())) w.2.2.1.length (fun k => (w.1, w.2.1, w.2.2.1, w.2.2.2.1, w.2.2.2.2.1, w.2.2.2.2.2.1, id, l, fl ++ tellOne (w.2.2.1.take k) id l[i], ((i : Nat) : Int), ((k : Nat) : Int), ())) (by
     simp only [spec_l11Tell_r2, spec_l11Tell_c2, lt_nat_irr, cond_false, List.take_length]) (fun k hk => by
     have hb : Nat.ble (((fl ++ tellOne (w.2.2.1.take k) id l[i]).length + 1) * 120) lim = true := ble_true (by
       have := tellOne_len (w.2.2.1.take k) id l[i]; rw [List.length_take] at this; rw [List.length_append]; unfold lim; omega)
     rw [tellOne_succ w.2.2.1 id l[i] hk]; simp only [spec_l11Tell_r2, spec_l11Tell_c2, lt_nat_true hk, zero_le_nat, cond_true, toNat_nat, List.getElem?_eq_getElem hk, List.getElem?_eq_getElem hi, Option.bind_some, succ_wrap (show k < 4611686018427387904 by omega), hb]
     cases decide ((w.2.2.1[k]).1 = id)
     · simp only [Bool.not_false, cond_true, List.append_assoc]
     · simp only [Bool.not_true, cond_false, List.append_nil])
   have l1 : loopV spec_l11Tell_r2 (w.1, w.2.1, w.2.2.1, w.2.2.2.1, w.2.2.2.2.1, w.2.2.2.2.2.1, id, l, fl ++ tellOne (w.2.2.1.take 0) id l[i], ((i : Nat) : Int), (0 : Int), ()) = _ := l1
   rwa [show tellOne (w.2.2.1.take 0) id l[i] = [] from rfl, List.append_nil] at l1
 have l2 := loop_run (round := spec_l11Tell_r0) (e := .inl (w.1, w.2.1, w.2.2.1, w.2.2.2.1, w.2.2.2.2.1, w.2.2.2.2.2.1, w.2.2.2.1 ++ tellL w.2.2.1 id l, ())) l.length (fun k => (w.1, w.2.1, w.2.2.1, w.2.2.2.1, w.2.2.2.2.1, w.2.2.2.2.2.1, id, l, w.2.2.2.1 ++ tellL w.2.2.1 id (l.take k), ((k : Nat) : Int), ())) (by
   simp only [spec_l11Tell_r0, spec_l11Tell_c0, lt_nat_irr, cond_false, List.take_length]) (fun k hk => by
   have hl := tellL_len w.2.2.1 id 5 h1 (l.take k); rw [List.length_take] at hl; rw [tellL_succ w.2.2.1 id l hk]; simp only [spec_l11Tell_r0, spec_l11Tell_c0, lt_nat_true hk, cond_true, inner _ k hk (show (w.2.2.2.1 ++ tellL w.2.2.1 id (l.take k)).length ≤ 2147483648 by rw [List.length_append]; omega), outK, Option.bind_some, succ_wrap (show k < 4611686018427387904 by omega), List.append_assoc])
 have l2 : loopV spec_l11Tell_r0 (w.1, w.2.1, w.2.2.1, w.2.2.2.1, w.2.2.2.2.1, w.2.2.2.2.2.1, id, l, w.2.2.2.1 ++ tellL w.2.2.1 id (l.take 0), (0 : Int), ()) = _ := l2; rw [show tellL w.2.2.1 id (l.take 0) = [] from rfl, List.append_nil] at l2; unfold spec_l11Tell; simp only [ble_true (show (0 + w.2.2.2.1.length) * 120 ≤ lim by unfold lim; omega), cond_true, List.nil_append, l2, outK, Option.bind_some]; rfl
theorem tmod_nat' (a b : Nat) : Int.tmod ((a : Nat) : Int) ((b : Nat) : Int) = ((a % b : Nat) : Int) := rfl
noncomputable def nextV (c : Int) (xs : MemL) (id : Int) : Int := match spec_NextOf c xs id with | some x => x.1 | none => 0
theorem next_ok (c : Int) (xs : MemL) (id : Int) (h : xs.length ≤ 1048576) : spec_NextOf c xs id = some (nextV c xs id, ()) := by
 have key : ∃ b, spec_NextOf c xs id = some (b, ()) := by
   unfold spec_NextOf; rw [(ring_ok c xs h).1]
   cases ringB c xs
   · exact ⟨0, rfl⟩
   obtain ⟨e, he, _⟩ := loop_inv (round := spec_NextOf_r0) (x := (id, c, xs, ((0 : Nat) : Int), ())) xs.length (fun k x => x = (id, c, xs, ((k : Nat) : Int), ())) (fun _ => True) (by
       rintro x rfl
       exact ⟨.inl (), by simp only [spec_NextOf_r0, spec_NextOf_c0, lt_nat_irr, cond_false], trivial⟩) (by
       rintro k x hk rfl
       have hm : (k + 1) % xs.length < xs.length := Nat.mod_lt _ (by omega); simp only [spec_NextOf_r0, spec_NextOf_c0, lt_nat_true hk, zero_le_nat, cond_true, toNat_nat, List.getElem?_eq_getElem hk, Option.bind_some, succ_wrap (show k < 4611686018427387904 by omega), tmod_nat', List.getElem?_eq_getElem hm, dec_false (show ¬ ((List.length xs : Nat) : Int) = 0 by omega), cond_false]
       cases decide (xs[k].1 = id)
       · exact .inr ⟨_, rfl, rfl⟩
       · exact .inl ⟨_, rfl, trivial⟩) rfl
   have he : loopV spec_NextOf_r0 (id, c, xs, (0 : Int), ()) = some e := he; simp only [Option.bind_some, Bool.not_true, cond_false, he]
   cases e
   · exact ⟨_, rfl⟩
   · exact ⟨_, rfl⟩
 obtain ⟨b, h1⟩ := key; have : nextV c xs id = b := by unfold nextV; rw [h1]
 rw [this]; exact h1
def tokFly (to_ : Int) (t : TokR) : FlyR := (to_, true, t.1, t.2.1, t.2.2.1, t.2.2.2.1, t.2.2.2.2.1, t.2.2.2.2.2.1, 0, 0, 0, ByteArray.empty, ())
theorem token_val (w : WorkR) (id : Int) (t : TokR) (h1 : w.2.1.length ≤ 1048576) (h2 : w.2.2.2.1.length ≤ 2147483648) (h3 : t.2.2.2.2.2.1.length ≤ 1048576) : spec_l11Token w.1 w.2.1 w.2.2.1 w.2.2.2.1 w.2.2.2.2.1 w.2.2.2.2.2.1 id t.1 t.2.1 t.2.2.1 t.2.2.2.1 t.2.2.2.2.1 t.2.2.2.2.2.1 = some ((setF w (w.2.2.2.1 ++ [tokFly (nextV w.1 w.2.1 id) t])).1, (setF w (w.2.2.2.1 ++ [tokFly (nextV w.1 w.2.1 id) t])).2.1, (setF w (w.2.2.2.1 ++ [tokFly (nextV w.1 w.2.1 id) t])).2.2.1, (setF w (w.2.2.2.1 ++ [tokFly (nextV w.1 w.2.1 id) t])).2.2.2.1, (setF w (w.2.2.2.1 ++ [tokFly (nextV w.1 w.2.1 id) t])).2.2.2.2.1, (setF w (w.2.2.2.1 ++ [tokFly (nextV w.1 w.2.1 id) t])).2.2.2.2.2.1, ()) := by
 unfold spec_l11Token; simp only [ble_true (show (0 + w.2.2.2.1.length) * 120 ≤ lim by unfold lim; omega), next_ok w.1 w.2.1 id h1, (copyToken_eq t.1 t.2.1 t.2.2.1 t.2.2.2.1 t.2.2.2.2.1 t.2.2.2.2.2.1 h3).1, Option.bind_some, cond_true, List.nil_append, ble_true (show (w.2.2.2.1.length + 1) * 120 ≤ lim by unfold lim; omega)]; rfl
def ownL (m : MatR) : ItemL := m.2.2.2.1.filter fun x => decide (x.2.1 = m.1)
def lastT (m : MatR) : TokR := (m.2.2.2.2.2.2.2.2.2.2.1, m.2.2.2.2.2.2.2.2.2.2.2.1, m.2.2.2.2.2.2.2.2.2.2.2.2.1, m.2.2.2.2.2.2.2.2.2.2.2.2.2.1, m.2.2.2.2.2.2.2.2.2.2.2.2.2.2.1, m.2.2.2.2.2.2.2.2.2.2.2.2.2.2.2.1, ())
noncomputable def againW (w : WorkR) (m : MatR) : WorkR := setF w (w.2.2.2.1 ++ [tokFly (nextV w.1 w.2.1 m.1) (lastT m)] ++ tellL w.2.2.1 m.1 (ownL m))
theorem again_val (w : WorkR) {k : Nat} (hk : k < w.2.2.1.length) (h1 : w.2.2.1.length ≤ 5) (h2 : w.2.2.2.1.length ≤ 1073741823) (h3 : w.2.1.length ≤ 1048576) (h4 : (w.2.2.1[k]).2.2.2.1.length ≤ 1048576) (h5 : (w.2.2.1[k]).2.2.2.2.2.2.2.2.2.2.2.2.2.2.2.1.length ≤ 1048576) :
   spec_l11Again w.1 w.2.1 w.2.2.1 w.2.2.2.1 w.2.2.2.2.1 w.2.2.2.2.2.1 ((k : Nat) : Int) = (bif blankB (lastT w.2.2.1[k]) then some ((1 : Int), w.1, w.2.1, w.2.2.1, w.2.2.2.1, w.2.2.2.2.1, w.2.2.2.2.2.1, ()) else some ((0 : Int), (againW w w.2.2.1[k]).1, (againW w w.2.2.1[k]).2.1, (againW w w.2.2.1[k]).2.2.1, (againW w w.2.2.1[k]).2.2.2.1, (againW w w.2.2.1[k]).2.2.2.2.1, (againW w w.2.2.1[k]).2.2.2.2.2.1, ())) := by
 generalize hm : w.2.2.1[k] = m at *; have l1 := loop_run (round := spec_l11Again_r0) (e := .inl (w.1, w.2.1, w.2.2.1, w.2.2.2.1, w.2.2.2.2.1, w.2.2.2.2.2.1, m.1, m.2.1, m.2.2.1, m.2.2.2.1, m.2.2.2.2.1, m.2.2.2.2.2.1, m.2.2.2.2.2.2.1, m.2.2.2.2.2.2.2.1, m.2.2.2.2.2.2.2.2.1, m.2.2.2.2.2.2.2.2.2.1, m.2.2.2.2.2.2.2.2.2.2.1, m.2.2.2.2.2.2.2.2.2.2.2.1, m.2.2.2.2.2.2.2.2.2.2.2.2.1, m.2.2.2.2.2.2.2.2.2.2.2.2.2.1, m.2.2.2.2.2.2.2.2.2.2.2.2.2.2.1, m.2.2.2.2.2.2.2.2.2.2.2.2.2.2.2.1, ownL m, ())) m.2.2.2.1.length (fun i => (w.1, w.2.1, w.2.2.1, w.2.2.2.1, w.2.2.2.2.1, w.2.2.2.2.2.1, m.1, m.2.1, m.2.2.1, m.2.2.2.1, m.2.2.2.2.1, m.2.2.2.2.2.1, m.2.2.2.2.2.2.1, m.2.2.2.2.2.2.2.1, m.2.2.2.2.2.2.2.2.1, m.2.2.2.2.2.2.2.2.2.1, m.2.2.2.2.2.2.2.2.2.2.1, m.2.2.2.2.2.2.2.2.2.2.2.1, m.2.2.2.2.2.2.2.2.2.2.2.2.1, m.2.2.2.2.2.2.2.2.2.2.2.2.2.1, m.2.2.2.2.2.2.2.2.2.2.2.2.2.2.1, m.2.2.2.2.2.2.2.2.2.2.2.2.2.2.2.1, (m.2.2.2.1.take i).filter (fun x => decide (x.2.1 = m.1)), ((i : Nat) : Int), ())) (by
   simp only [spec_l11Again_r0, spec_l11Again_c0, lt_nat_irr, cond_false, List.take_length]; rfl) (fun i hi => by
   have hb : Nat.ble ((((m.2.2.2.1.take i).filter (fun x => decide (x.2.1 = m.1))).length + 1) * 40) lim = true := ble_true (by
     have := List.length_filter_le (fun x : ItemR => decide (x.2.1 = m.1)) (m.2.2.2.1.take i); rw [List.length_take] at this; unfold lim; omega)
   rw [List.take_succ_eq_append_getElem hi, List.filter_append, List.filter_cons]; simp only [spec_l11Again_r0, spec_l11Again_c0, lt_nat_true hi, zero_le_nat, cond_true, toNat_nat, List.getElem?_eq_getElem hi, Option.bind_some, succ_wrap (show i < 4611686018427387904 by omega), hb]
   by_cases e : (m.2.2.2.1[i]).2.1 = m.1
   · rw [dec_true e]; rfl
   · rw [dec_false e]; simp only [cond_false]; rw [if_neg (by decide)]; simp)
 have l1 : loopV spec_l11Again_r0 (w.1, w.2.1, w.2.2.1, w.2.2.2.1, w.2.2.2.2.1, w.2.2.2.2.2.1, m.1, m.2.1, m.2.2.1, m.2.2.2.1, m.2.2.2.2.1, m.2.2.2.2.2.1, m.2.2.2.2.2.2.1, m.2.2.2.2.2.2.2.1, m.2.2.2.2.2.2.2.2.1, m.2.2.2.2.2.2.2.2.2.1, m.2.2.2.2.2.2.2.2.2.2.1, m.2.2.2.2.2.2.2.2.2.2.2.1, m.2.2.2.2.2.2.2.2.2.2.2.2.1, m.2.2.2.2.2.2.2.2.2.2.2.2.2.1, m.2.2.2.2.2.2.2.2.2.2.2.2.2.2.1, m.2.2.2.2.2.2.2.2.2.2.2.2.2.2.2.1, [], (0 : Int), ()) = _ := l1; unfold spec_l11Again; have hb : spec_l10Blank m.2.2.2.2.2.2.2.2.2.2.1 m.2.2.2.2.2.2.2.2.2.2.2.1 m.2.2.2.2.2.2.2.2.2.2.2.2.1 m.2.2.2.2.2.2.2.2.2.2.2.2.2.1 m.2.2.2.2.2.2.2.2.2.2.2.2.2.2.1 m.2.2.2.2.2.2.2.2.2.2.2.2.2.2.2.1 = some (blankB (lastT m), ()) := (blank_ok (lastT m)).1; simp only [zero_le_nat, cond_true, toNat_nat, List.getElem?_eq_getElem hk, hm, Option.bind_some, hb]
 cases blankB (lastT m)
 · have t1 : spec_l11Token w.1 w.2.1 w.2.2.1 w.2.2.2.1 w.2.2.2.2.1 w.2.2.2.2.2.1 m.1 m.2.2.2.2.2.2.2.2.2.2.1 m.2.2.2.2.2.2.2.2.2.2.2.1 m.2.2.2.2.2.2.2.2.2.2.2.2.1 m.2.2.2.2.2.2.2.2.2.2.2.2.2.1 m.2.2.2.2.2.2.2.2.2.2.2.2.2.2.1 m.2.2.2.2.2.2.2.2.2.2.2.2.2.2.2.1 = _ := token_val w m.1 (lastT m) h3 (by omega) h5; have t2 := tell_val (setF w (w.2.2.2.1 ++ [tokFly (nextV w.1 w.2.1 m.1) (lastT m)])) m.1 (ownL m) h1 (by show (w.2.2.2.1 ++ [_]).length ≤ _; rw [List.length_append, List.length_singleton]; omega) (Nat.le_trans (List.length_filter_le _ _) h4); simp only [cond_false, l1, outK, t1, Option.bind_some, t2]; rfl
 · rfl
structure FlyQ (f : FlyR) : Prop where
 tok : f.2.1 = true → TokQ (f.2.2.1, f.2.2.2.1, f.2.2.2.2.1, f.2.2.2.2.2.1, f.2.2.2.2.2.2.1, f.2.2.2.2.2.2.2.1, ())
 item : f.2.1 = false → ItemP (f.2.2.2.2.2.2.2.2.1, f.2.2.2.2.2.2.2.2.2.1, f.2.2.2.2.2.2.2.2.2.2.1, f.2.2.2.2.2.2.2.2.2.2.2.1, ())
 few : f.2.2.2.2.2.2.2.1.length ≤ 20
structure WorkQ (n : Nat) (c : Int) (ms : MemL) (w : WorkR) : Prop where
 ring : RingP c ms
 self : w.1 = c ∧ w.2.1 = ms
 len : w.2.2.1.length = ms.length
 ids : ∀ k (hk : k < w.2.2.1.length) (hm : k < ms.length), (w.2.2.1[k]).1 = ms[k].1
 matq : ∀ m ∈ w.2.2.1, MatQ m ∧ m.2.1 = c ∧ m.2.2.1 = ms
 fly : ∀ f ∈ w.2.2.2.1, FlyQ f
 few : w.2.2.2.1.length ≤ 400 * (n + 1)
 heard : w.2.2.2.2.1.length = ms.length
 list : ∀ h ∈ w.2.2.2.2.1, h.1.length ≤ 60 * n
 said : (∀ x ∈ w.2.2.2.2.2.1, ItemP x) ∧ w.2.2.2.2.2.1.length ≤ 63 * n
theorem WorkQ.up {n n' : Nat} {c : Int} {ms : MemL} {w : WorkR} (h : WorkQ n c ms w) (hn : n ≤ n') : WorkQ n' c ms w :=
 { h with few := by have := h.few; omega, list := fun x hx => by have := h.list x hx; omega, said := ⟨h.said.1, by have := h.said.2; omega⟩ }
theorem WorkQ.mate {n : Nat} {c : Int} {ms : MemL} {w : WorkR} (h : WorkQ n c ms w) {k : Nat} (hk : k < w.2.2.1.length) {m : MatR} (hm : MatQ m) (h1 : m.1 = (w.2.2.1[k]).1) (h2 : m.2.1 = (w.2.2.1[k]).2.1) (h3 : m.2.2.1 = (w.2.2.1[k]).2.2.1) : WorkQ n c ms (setM w k m) :=
 { h with
   len := by show (w.2.2.1.set k m).length = _; rw [List.length_set]; exact h.len
   ids := fun j hj hm' => by
     have hj : j < (w.2.2.1.set k m).length := hj; show ((w.2.2.1.set k m)[j]).1 = _; rw [List.getElem_set]; rw [List.length_set] at hj
     split
     · rename_i e; subst e; rw [h1]; exact h.ids k hk hm'
     · exact h.ids j hj hm'
   matq := fun x hx => by
     have hx : x ∈ w.2.2.1.set k m := hx; rcases List.mem_or_eq_of_mem_set hx with hx | rfl
     · exact h.matq x hx
     · have := h.matq _ (List.getElem_mem hk); exact ⟨hm, h2.trans this.2.1, h3.trans this.2.2⟩ }
theorem WorkQ.fly' {n : Nat} {c : Int} {ms : MemL} {w : WorkR} (h : WorkQ n c ms w) {l : List FlyR} (h1 : ∀ f ∈ l, FlyQ f) (h2 : l.length ≤ 400 * (n + 1)) : WorkQ n c ms (setF w l) := { h with fly := h1, few := h2 }
theorem flyQ_tok {a : Int} {t : TokR} (h : TokQ t) : FlyQ (tokFly a t) := ⟨fun _ => h, fun e => (by cases e), h.2.2.2.2.2.1⟩
theorem flyQ_tell {ms : List MatR} {id : Int} {l : ItemL} (h : ∀ x ∈ l, ItemP x) : ∀ f ∈ tellL ms id l, FlyQ f := by
 intro f hf; obtain ⟨m, _, x, hx, _, rfl⟩ := tellL_mem hf; exact ⟨fun e => (by cases e), fun _ => h x hx, Nat.zero_le _⟩
theorem WorkQ.five {n : Nat} {c : Int} {ms : MemL} {w : WorkR} (h : WorkQ n c ms w) : w.2.2.1.length ≤ 5 ∧ w.2.1.length ≤ 5 ∧ ms.length ≤ 5 := by
 have := h.ring.2.1.2; have := h.len; rw [h.self.2]; omega
theorem hear_step {n : Nat} {c : Int} {ms : MemL} {w : WorkR} (h : WorkQ n c ms w) (hn : n ≤ 1000000) {k : Nat} (hk : k < w.2.2.1.length) : ∃ w', spec_l11Hear w.1 w.2.1 w.2.2.1 w.2.2.2.1 w.2.2.2.2.1 w.2.2.2.2.2.1 ((k : Nat) : Int) = some (w'.1, w'.2.1, w'.2.2.1, w'.2.2.2.1, w'.2.2.2.2.1, w'.2.2.2.2.2.1, ()) ∧ WorkQ (n + 1) c ms w' := by
 obtain ⟨q0, q1, q2⟩ := h.five; have hm := (h.matq _ (List.getElem_mem hk)).1; have hl := h.len; have hh := h.heard; have hk2 : k < w.2.2.2.2.1.length := by omega
 obtain ⟨j, m', e, _, p2, p3, p4, _⟩ := hear_ok hm; have ha := (aru_ok (w.2.2.1[k]).2.2.2.1 (Nat.le_trans (items_small _ hm.items).1 (by decide))).2.2.1; have hi := (items_small _ hm.items).1; have hg := hm.heard; have hj : j ≤ 60 := by omega
 have hx := h.list _ (List.getElem_mem hk2); refine ⟨setH (setM w k m') (w.2.2.2.2.1.set k ((w.2.2.2.2.1[k]).1 ++ heardL (w.2.2.1[k]).2.2.2.1 (w.2.2.1[k]).2.2.2.2.2.2.2.2.2.1 j, ())), ?_, ?_⟩
 · have h1 := mate_val w (by omega) hk m'; unfold spec_l11Hear; simp only [zero_le_nat, cond_true, toNat_nat, List.getElem?_eq_getElem hk, Option.bind_some, p2, h1]; show (bif Nat.ble ((0 + w.2.2.2.2.1.length) * 24) lim then _ else none) = _; simp only [setM, ble_true (show (0 + w.2.2.2.2.1.length) * 24 ≤ lim by unfold lim; omega), cond_true, List.nil_append, blt_true hk2, List.getElem?_eq_getElem hk2, Option.bind_some, ble_true (show (0 + (w.2.2.2.2.1[k]).1.length) * 40 ≤ lim by unfold lim; omega), heardL_len, ble_true (show ((w.2.2.2.2.1[k]).1.length + j) * 40 ≤ lim by unfold lim; omega)]; rfl
 · have h2 := h.mate hk p3 (by rw [e]; rfl) (by rw [e]; rfl) (by rw [e]; rfl); have h3 := h2.up (show n ≤ n + 1 by omega); exact { h3 with
     heard := by show (w.2.2.2.2.1.set k _).length = _; rw [List.length_set]; exact hh
     list := fun x hx' => by
       have hx' : x ∈ w.2.2.2.2.1.set k _ := hx'; rcases List.mem_or_eq_of_mem_set hx' with hx' | rfl
       · have := h.list x hx'; omega
       · show ((w.2.2.2.2.1[k]).1 ++ heardL _ _ j).length ≤ _; rw [List.length_append, heardL_len]; omega }
theorem catch_step {m : MatR} (hm : MatQ m) {x : ItemR} (hx : ItemP x) : MatQ (withItems m (putR m.2.2.2.1 x)) := by
 have hi := (items_small _ hm.items).1; have hp := putR_items hm.items hx; have hi2 := (items_small _ hp).1; have ha : aruOf m.2.2.2.1 ≤ aruOf (putR m.2.2.2.1 x) := aru_mono (by omega) (by omega) fun r hr => ⟨r, putR_keep hr, rfl⟩
 exact { hm with
   items := hp
   line := ⟨hm.line.1, by have := hm.line.2; show m.2.2.2.2.2.2.2.2.1 ≤ ((aruOf (putR m.2.2.2.1 x) : Nat) : Int); omega⟩
   heard := ⟨hm.heard.1, by have := hm.heard.2; show m.2.2.2.2.2.2.2.2.2.1 ≤ ((aruOf (putR m.2.2.2.1 x) : Nat) : Int); omega⟩ }
theorem catchR_ok {m : MatR} (hm : MatQ m) {x : ItemR} (hx : ItemP x) : catchR m x = withItems m (putR m.2.2.2.1 x) := by
 have hi := (items_small _ hm.items).1; unfold catchR putB; rw [(mat_ok m (Nat.le_trans hm.small (by decide))).2.2.2 hm, (items_ok _ (by omega)).2.2.2 hm.items, (item_ok x).2.2.2 hx]; rfl
end Go.TM
