/- Lacks, of the program and of the reference: what is missing, sorted, each once. -/
import Derived.Test.YtiljcjnnhkidbaaCPMarkV
set_option linter.unusedSimpArgs false
set_option linter.unusedVariables false
namespace Go.TM
open Go
theorem in_val (d : Int) (xs : List (Int × Unit)) (h : xs.length ≤ 1048576) : spec_l05In xs d = some (decide (d ∈ intsOf xs), ()) := by
 obtain ⟨e, he, hq⟩ := loop_inv (round := spec_l05In_r0) (x := (xs, d, ((0 : Nat) : Int), ())) xs.length (fun k x => x = (xs, d, ((k : Nat) : Int), ()) ∧ d ∉ intsOf (xs.take k)) (fun e => (e = .inl () ∧ d ∉ intsOf xs) ∨ (e = .inr (true, ()) ∧ d ∈ intsOf xs)) (by
     rintro x ⟨rfl, g⟩
     rw [List.take_length] at g; exact ⟨.inl (), by simp only [spec_l05In_r0, spec_l05In_c0, lt_nat_irr, cond_false], .inl ⟨rfl, g⟩⟩) (by
     rintro k x hk ⟨rfl, g⟩
     simp only [spec_l05In_r0, spec_l05In_c0, lt_nat_true hk, zero_le_nat, cond_true, toNat_nat, List.getElem?_eq_getElem hk, Option.bind_some, succ_wrap (show k < 4611686018427387904 by omega)]
     by_cases e : xs[k].1 = d
     · rw [dec_true e]; exact .inl ⟨_, rfl, .inr ⟨rfl, by rw [← e]; exact List.mem_map_of_mem (List.getElem_mem hk)⟩⟩
     · rw [dec_false e]; refine .inr ⟨_, rfl, rfl, ?_⟩; rw [List.take_succ_eq_append_getElem hk]; unfold intsOf at g ⊢; rw [List.map_append, List.mem_append]
       rintro (h1 | h1)
       · exact g h1
       · simp only [List.map_cons, List.map_nil, List.mem_singleton] at h1; exact e h1.symm) ⟨rfl, by simp [intsOf]⟩
 have he : loopV spec_l05In_r0 (xs, d, (0 : Int), ()) = some e := he; unfold spec_l05In; rw [he]; rcases hq with ⟨rfl, g⟩ | ⟨rfl, g⟩
 · rw [dec_false g]; rfl
 · rw [dec_true g]; rfl
theorem contains_val (d : Int) (xs : List (Int × Unit)) (h : xs.length ≤ 1048576) : slices_Contains_int xs d = some (decide (d ∈ intsOf xs), ()) := by
 obtain ⟨b, h1, h2⟩ := contains_same d xs h; rw [in_val d xs h] at h1; injection h1 with h1; injection h1 with h1 _; rw [h2, h1]
def hasB (list : ItemL) (s : Int) : Bool := (itemAt list s).isSome
theorem itemOut_has (o : Option ItemR) : (itemOut o).2.2.2.2.1 = o.isSome := by cases o <;> rfl
def MissOut {B C : Type} (list : ItemL) (u : Int) : Sum ((List (Int × Unit)) × Unit) B → Sum ((List (Int × Unit)) × Unit) C → Prop
 | .inl a, .inl b => a = b ∧ ∃ ms : List Int, a.1 = ofInts ms ∧ ms.length ≤ 20 ∧ ∀ s ∈ ms, 1 ≤ s ∧ s ≤ u ∧ hasB list s = false
 | _, _ => False
theorem missing_loop (list : ItemL) (upto u : Int) (n : Nat) (h : list.length ≤ 1048576) (hn : n ≤ 1048576) (hu : (if (60 : Int) < upto then (60 : Int) else upto) = u) (hu60 : u ≤ 60) :
   ∃ e f, loopV spec_Missing_r0 (list, u, [], ((n + 1 : Nat) : Int), ()) = some e ∧ loopV impl_Missing_r0 (list, upto, [], ((n + 1 : Nat) : Int), ()) = some f ∧ MissOut list u e f := by
 refine loop_two 61 (fun k x y => ∃ ms : List Int, x = (list, u, ofInts ms, ((n + 1 + k : Nat) : Int), ()) ∧ y = (list, upto, ofInts ms, ((n + 1 + k : Nat) : Int), ()) ∧ ms.length ≤ 20 ∧ ∀ s ∈ ms, 1 ≤ s ∧ s ≤ u ∧ hasB list s = false) (MissOut list u) ?_ ⟨[], rfl, rfl, by simp, fun s hs => by cases hs⟩
 rintro k x y hk ⟨ms, rfl, rfl, q1, q2⟩
 have stop : MissOut (B := Unit) (C := Unit) list u (.inl (ofInts ms, ())) (.inl (ofInts ms, ())) := ⟨rfl, ms, rfl, q1, q2⟩
 by_cases hlt : ((n + 1 + k : Nat) : Int) ≤ u
 case neg =>
   refine .inl ⟨.inl (ofInts ms, ()), .inl (ofInts ms, ()), ?_, ?_, ⟨rfl, ms, rfl, q1, q2⟩⟩
   · simp only [spec_Missing_r0, spec_Missing_c0, dec_false hlt, cond_false]
   · simp only [impl_Missing_r0, impl_Missing_c0, hu, dec_false hlt, cond_false]
 by_cases h20 : ((List.length (ofInts ms) : Nat) : Int) < 20
 case neg =>
   refine .inl ⟨.inl (ofInts ms, ()), .inl (ofInts ms, ()), ?_, ?_, ⟨rfl, ms, rfl, q1, q2⟩⟩
   · simp only [spec_Missing_r0, spec_Missing_c0, dec_true hlt, dec_false h20, cond_true, cond_false]
   · simp only [impl_Missing_r0, impl_Missing_c0, hu, dec_true hlt, dec_false h20, cond_true, cond_false]
 have hl : (ofInts ms).length = ms.length := ofInts_len ms; simp only [spec_Missing_r0, spec_Missing_c0, impl_Missing_r0, impl_Missing_c0, hu, dec_true hlt, dec_true h20, cond_true, itemat_spec list _ h, itemat_impl list _ h, Option.bind_some, itemOut_has, ble_true (show ((ofInts ms).length + 1) * 8 ≤ lim by unfold lim; omega), succ_wrap (show n + 1 + k < 4611686018427387904 by omega)]
 cases hh : (itemAt list ((n + 1 + k : Nat) : Int)).isSome
 · refine .inr ⟨by omega, _, _, rfl, rfl, ms ++ [((n + 1 + k : Nat) : Int)], by simp [ofInts]; omega, by simp [ofInts]; omega, by simp; omega, fun s hs => ?_⟩; rcases List.mem_append.1 hs with hs | hs
   · exact q2 s hs
   · rw [List.mem_singleton] at hs; subst hs; exact ⟨by omega, by omega, hh⟩
 · exact .inr ⟨by omega, _, _, rfl, rfl, ms, by rw [show n + 1 + k + 1 = n + 1 + (k + 1) by omega], by rw [show n + 1 + k + 1 = n + 1 + (k + 1) by omega], q1, q2⟩
theorem missing_val (list : ItemL) (upto : Int) (h : list.length ≤ 1048576) : ∃ ms : List Int, spec_Missing list upto = some (ofInts ms, ()) ∧ impl_Missing list upto = some (ofInts ms, ()) ∧ ms.length ≤ 20 ∧ ∀ s ∈ ms, 1 ≤ s ∧ (s ≤ 60 ∧ s ≤ upto) ∧ hasB list s = false := by
 obtain ⟨n, a1, a2, a3, _⟩ := aru_same list h; have hw : IntKind.i64.wrap (((n : Nat) : Int) + (1 : Int)) = ((n + 1 : Nat) : Int) := succ_wrap (by omega); unfold spec_Missing impl_Missing; simp only [a1, a2, Option.bind_some, hw]
 by_cases hu : (60 : Int) < upto
 · obtain ⟨e, f, g1, g2, g3⟩ := missing_loop list upto 60 n h (by omega) (if_pos hu) (by omega); rw [dec_true hu]; simp only [cond_true, g1, g2]
   cases e with
   | inr e => exact g3.elim
   | inl e => cases f with
     | inr f => exact g3.elim
     | inl f =>
       obtain ⟨rfl, ms, k1, k2, k3⟩ := g3; simp only [outK_inl]; exact ⟨ms, by rw [k1], by rw [k1], k2, fun s hs => ⟨(k3 s hs).1, ⟨(k3 s hs).2.1, by have := (k3 s hs).2.1; omega⟩, (k3 s hs).2.2⟩⟩
 · obtain ⟨e, f, g1, g2, g3⟩ := missing_loop list upto upto n h (by omega) (if_neg hu) (by omega); rw [dec_false hu]; simp only [cond_false, g1, g2]
   cases e with
   | inr e => exact g3.elim
   | inl e => cases f with
     | inr f => exact g3.elim
     | inl f =>
       obtain ⟨rfl, ms, k1, k2, k3⟩ := g3; simp only [outK_inl]; exact ⟨ms, by rw [k1], by rw [k1], k2, fun s hs => ⟨(k3 s hs).1, ⟨by have := (k3 s hs).2.1; omega, (k3 s hs).2.1⟩, (k3 s hs).2.2⟩⟩
theorem strict_ext : ∀ (a b : List Int), a.Pairwise (· < ·) → b.Pairwise (· < ·) → (∀ x, x ∈ a ↔ x ∈ b) → a = b
 | [], [], _, _, _ => rfl
 | [], y :: b, _, _, h => absurd ((h y).2 List.mem_cons_self) (by simp)
 | x :: a, [], _, _, h => absurd ((h x).1 List.mem_cons_self) (by simp)
 | x :: a, y :: b, ha, hb, h => by
   rw [List.pairwise_cons] at ha hb; have hxy : x = y := by
     rcases List.mem_cons.1 ((h x).1 List.mem_cons_self) with e | e
     · exact e
     · have h1 := hb.1 x e; rcases List.mem_cons.1 ((h y).2 List.mem_cons_self) with e2 | e2
       · exact e2.symm
       · have h2 := ha.1 y e2; omega
   subst hxy
   congr 1
   refine strict_ext a b ha.2 hb.2 fun z => ⟨fun hz => ?_, fun hz => ?_⟩
   · rcases List.mem_cons.1 ((h z).1 (List.mem_cons_of_mem _ hz)) with e | e
     · have := ha.1 z hz; omega
     · exact e
   · rcases List.mem_cons.1 ((h z).2 (List.mem_cons_of_mem _ hz)) with e | e
     · have := hb.1 z hz; omega
     · exact e
theorem sort_le (l : List Int) : (l.mergeSort fun x y => decide (x ≤ y)).Pairwise (· ≤ ·) := by
 have := List.pairwise_mergeSort (le := fun x y : Int => decide (x ≤ y)) (fun a b c h1 h2 => by simp only [decide_eq_true_eq] at *; omega) (fun a b => by simp only [Bool.or_eq_true, decide_eq_true_eq]; omega) l; exact this.imp fun h => by simpa using h
theorem sort_mem (l : List Int) (x : Int) : x ∈ (l.mergeSort fun x y => decide (x ≤ y)) ↔ x ∈ l := (List.mergeSort_perm l _).mem_iff
theorem get_bang (l : List Int) (j : Nat) (h : j < l.length) : l.toArray[j]! = l[j] := by
 rw [getElem!_pos l.toArray j (by simpa using h)]; simp
theorem compact_strict (l : List Int) (h : l.Pairwise (· ≤ ·)) : (Lib.compact l).Pairwise (· < ·) := by
 unfold Lib.compact Lib.compactUpTo; rw [List.pairwise_map]; have hr : ((List.range l.length).filter (Lib.keeps l.toArray)).Pairwise (· < ·) := List.Pairwise.filter _ List.pairwise_lt_range; refine hr.imp_of_mem fun {i j} hi hj hij => ?_
 obtain ⟨hi1, _⟩ := List.mem_filter.1 hi; obtain ⟨hj1, hj2⟩ := List.mem_filter.1 hj; have hi1 := List.mem_range.1 hi1; have hj1 := List.mem_range.1 hj1; have hk : l.toArray[j]! ≠ l.toArray[j - 1]! := by
   unfold Lib.keeps at hj2; rw [decide_eq_true_eq] at hj2; exact hj2.resolve_left (by omega)
 have hp := List.pairwise_iff_getElem.1 h; have h1 := hp (j - 1) j (by omega) hj1 (by omega); rw [get_bang l j hj1, get_bang l (j - 1) (by omega)] at hk; rw [get_bang l i hi1, get_bang l j hj1]
 by_cases e : i = j - 1
 · subst e; omega
 · have h2 := hp i (j - 1) hi1 (by omega) (by omega); omega
theorem compact_mem (l : List Int) (x : Int) : x ∈ Lib.compact l ↔ x ∈ l := by
 unfold Lib.compact Lib.compactUpTo; rw [List.mem_map]
 constructor
 · rintro ⟨j, hj, rfl⟩
   have hj1 := List.mem_range.1 (List.mem_filter.1 hj).1; rw [get_bang l j hj1]; exact List.getElem_mem hj1
 · intro hx; have key : ∀ j, j < l.length → ∃ i, i ∈ (List.range l.length).filter (Lib.keeps l.toArray) ∧ l.toArray[i]! = l.toArray[j]! := by
     intro j
     induction j with
     | zero => intro h0; exact ⟨0, List.mem_filter.2 ⟨List.mem_range.2 h0, by simp [Lib.keeps]⟩, rfl⟩
     | succ j ih =>
       intro hj
       by_cases e : l.toArray[j + 1]! = l.toArray[j]!
       · obtain ⟨i, h1, h2⟩ := ih (by omega); exact ⟨i, h1, by rw [h2, e]⟩
       · exact ⟨j + 1, List.mem_filter.2 ⟨List.mem_range.2 hj, by unfold Lib.keeps; rw [decide_eq_true_eq, Nat.add_sub_cancel]; exact .inr e⟩, rfl⟩
   obtain ⟨j, hj, rfl⟩ := List.mem_iff_getElem.1 hx; obtain ⟨i, h1, h2⟩ := key j hj; exact ⟨i, h1, by rw [h2, get_bang l j hj]⟩
def ints (n : Nat) : List Int := (List.range n).map fun i => ((i + 1 : Nat) : Int)
theorem ints_succ (n : Nat) : ints (n + 1) = ints n ++ [((n + 1 : Nat) : Int)] := by
 unfold ints; rw [List.range_succ, List.map_append]; rfl
theorem ints_mem (n : Nat) (x : Int) : x ∈ ints n ↔ 1 ≤ x ∧ x ≤ ((n : Nat) : Int) := by
 unfold ints; rw [List.mem_map]
 constructor
 · rintro ⟨i, hi, rfl⟩
   have := List.mem_range.1 hi; omega
 · rintro ⟨h1, h2⟩
   exact ⟨(x - 1).toNat, List.mem_range.2 (by omega), by omega⟩
theorem ints_strict (n : Nat) : (ints n).Pairwise (· < ·) := by
 unfold ints; rw [List.pairwise_map]; exact List.pairwise_lt_range.imp fun h => by omega
theorem ints_split : ∀ (k d : Nat), ∃ r, ints (k + d) = ints k ++ r
 | k, 0 => ⟨[], by simp⟩
 | k, d + 1 => by
   obtain ⟨r, h⟩ := ints_split k d; exact ⟨r ++ [((k + d + 1 : Nat) : Int)], by rw [show k + (d + 1) = (k + d) + 1 by omega, ints_succ, h, List.append_assoc]⟩
theorem ofInts_app (a b : List Int) : ofInts (a ++ b) = ofInts a ++ ofInts b := by simp [ofInts]
theorem ofInts_take (a : List Int) (n : Nat) : ofInts (a.take n) = (ofInts a).take n := by simp [ofInts, List.map_take]
theorem intsOf_ofInts (a : List Int) : intsOf (ofInts a) = a := by simp [intsOf, ofInts, Function.comp_def]
def lackP (list : ItemL) (xs : List (Int × Unit)) (ms : List Int) (s : Int) : Bool := (!hasB list s && decide (s ∈ intsOf xs)) || decide (s ∈ ms)
def lackL (list : ItemL) (xs : List (Int × Unit)) (ms : List Int) : List Int := ((ints 60).filter (lackP list xs ms)).take 20
abbrev LackH : Type := ItemL × Int × Int × Int × Int × Int × (List (Int × Unit)) × Int × Int × Int × Int × Int × (List (Int × Unit)) × Int × Int × Int × Int × Int × (List (Int × Unit)) × (List (Int × Unit)) × Int × Unit
theorem lacks_spec (t0 t1 t2 t3 t4 : Int) (xs : List (Int × Unit)) (list : ItemL) (ms : List Int) (h : list.length ≤ 1048576) (hx : xs.length ≤ 1048576) (hm : spec_Missing list t2 = some (ofInts ms, ())) (hms : ms.length ≤ 20) :
   spec_Lacks t0 t1 t2 t3 t4 xs list = some (t0, t1, t2, t3, t4, ofInts (lackL list xs ms), ()) := by
 have hml : (ofInts ms).length ≤ 1048576 := by rw [ofInts_len]; omega
 obtain ⟨e, he, rfl⟩ := loop_inv (round := spec_Lacks_r0) (x := (list, t0, t1, t2, t3, t4, xs, (0 : Int), (0 : Int), (0 : Int), (0 : Int), (0 : Int), [], t0, t1, t2, t3, t4, [], ofInts ms, ((0 + 1 : Nat) : Int), ())) 60
   (fun k x => x = (list, t0, t1, t2, t3, t4, xs, (0 : Int), (0 : Int), (0 : Int), (0 : Int), (0 : Int), [], t0, t1, t2, t3, t4, ofInts ((ints k).filter (lackP list xs ms)), ofInts ms, ((k + 1 : Nat) : Int), ()) ∧ ((ints k).filter (lackP list xs ms)).length ≤ 20)
   (fun e => e = .inl ((0 : Int), (0 : Int), (0 : Int), (0 : Int), (0 : Int), [], t0, t1, t2, t3, t4, ofInts (lackL list xs ms), ())) (by
     rintro x ⟨rfl, g⟩
     refine ⟨_, ?_, rfl⟩; simp only [spec_Lacks_r0, spec_Lacks_c0, dec_false (show ¬ ((60 + 1 : Nat) : Int) ≤ (60 : Int) by omega), cond_false]; unfold lackL; rw [List.take_of_length_le g]) (by
     rintro k x hk ⟨rfl, g⟩
     have hle : ((k + 1 : Nat) : Int) ≤ (60 : Int) := by omega
     have hl := ofInts_len ((ints k).filter (lackP list xs ms))
     by_cases h20 : ((List.length (ofInts ((ints k).filter (lackP list xs ms))) : Nat) : Int) < 20
     case neg =>
       refine .inl ⟨_, ?_, rfl⟩; simp only [spec_Lacks_r0, spec_Lacks_c0, dec_true hle, dec_false h20, cond_true, cond_false]; have : lackL list xs ms = (ints k).filter (lackP list xs ms) := by
         unfold lackL; obtain ⟨r, hr⟩ := ints_split k (60 - k); rw [show k + (60 - k) = 60 by omega] at hr; rw [hr, List.filter_append]; exact List.take_left' (by omega)
       rw [this]
     have hnext : (ints (k + 1)).filter (lackP list xs ms) = (ints k).filter (lackP list xs ms) ++ (if lackP list xs ms ((k + 1 : Nat) : Int) then [((k + 1 : Nat) : Int)] else []) := by
       rw [ints_succ, List.filter_append]; rw [List.filter_cons, List.filter_nil]
     have hin1 := in_val ((k + 1 : Nat) : Int) xs hx; have hin2 := in_val ((k + 1 : Nat) : Int) (ofInts ms) hml; rw [intsOf_ofInts] at hin2; have hb : Nat.ble (((ofInts ((ints k).filter (lackP list xs ms))).length + 1) * 8) lim = true := ble_true (by unfold lim; omega); have hsw := succ_wrap (show k + 1 < 4611686018427387904 by omega); simp only [spec_Lacks_r0, spec_Lacks_c0, dec_true hle, dec_true h20, cond_true, itemat_spec list _ h, Option.bind_some, itemOut_has, hin1, hin2, hb, hsw]; have yes : lackP list xs ms ((k + 1 : Nat) : Int) = true → ∃ x' : LackH, x' = (list, t0, t1, t2, t3, t4, xs, (0 : Int), (0 : Int), (0 : Int), (0 : Int), (0 : Int), [], t0, t1, t2, t3, t4, ofInts ((ints k).filter (lackP list xs ms)) ++ [(((k + 1 : Nat) : Int), ())], ofInts ms, ((k + 1 + 1 : Nat) : Int), ()) ∧
         (x' = (list, t0, t1, t2, t3, t4, xs, (0 : Int), (0 : Int), (0 : Int), (0 : Int), (0 : Int), [], t0, t1, t2, t3, t4, ofInts ((ints (k + 1)).filter (lackP list xs ms)), ofInts ms, ((k + 1 + 1 : Nat) : Int), ()) ∧ ((ints (k + 1)).filter (lackP list xs ms)).length ≤ 20) := by
       intro hp; refine ⟨_, rfl, ?_, ?_⟩
       · rw [hnext, hp, if_pos rfl, ofInts_app]; rfl
       · rw [hnext, hp, if_pos rfl, List.length_append]; simp; omega
     have no : lackP list xs ms ((k + 1 : Nat) : Int) = false → ∃ x' : LackH, x' = (list, t0, t1, t2, t3, t4, xs, (0 : Int), (0 : Int), (0 : Int), (0 : Int), (0 : Int), [], t0, t1, t2, t3, t4, ofInts ((ints k).filter (lackP list xs ms)), ofInts ms, ((k + 1 + 1 : Nat) : Int), ()) ∧
         (x' = (list, t0, t1, t2, t3, t4, xs, (0 : Int), (0 : Int), (0 : Int), (0 : Int), (0 : Int), [], t0, t1, t2, t3, t4, ofInts ((ints (k + 1)).filter (lackP list xs ms)), ofInts ms, ((k + 1 + 1 : Nat) : Int), ()) ∧ ((ints (k + 1)).filter (lackP list xs ms)).length ≤ 20) := by
       intro hp; refine ⟨_, rfl, ?_, ?_⟩
       · rw [hnext, hp]; simp
       · rw [hnext, hp]; simp; omega
     have hdef : lackP list xs ms ((k + 1 : Nat) : Int) = ((!(itemAt list ((k + 1 : Nat) : Int)).isSome && decide (((k + 1 : Nat) : Int) ∈ intsOf xs)) || decide (((k + 1 : Nat) : Int) ∈ ms)) := rfl
     cases c1 : (itemAt list ((k + 1 : Nat) : Int)).isSome
     · cases c2 : decide (((k + 1 : Nat) : Int) ∈ intsOf xs)
       · cases c3 : decide (((k + 1 : Nat) : Int) ∈ ms)
         · obtain ⟨x', g1, g2⟩ := no (by rw [hdef, c1, c2, c3]; rfl); exact .inr ⟨x', by rw [g1]; rfl, g2⟩
         · obtain ⟨x', g1, g2⟩ := yes (by rw [hdef, c1, c2, c3]; rfl); exact .inr ⟨x', by rw [g1]; rfl, g2⟩
       · obtain ⟨x', g1, g2⟩ := yes (by rw [hdef, c1, c2]; rfl); exact .inr ⟨x', by rw [g1]; rfl, g2⟩
     · cases c3 : decide (((k + 1 : Nat) : Int) ∈ ms)
       · obtain ⟨x', g1, g2⟩ := no (by rw [hdef, c1, c3]; rfl); exact .inr ⟨x', by rw [g1]; rfl, g2⟩
       · obtain ⟨x', g1, g2⟩ := yes (by rw [hdef, c1, c3]; rfl); exact .inr ⟨x', by rw [g1]; rfl, g2⟩) ⟨rfl, by simp [ints]⟩
 unfold spec_Lacks; rw [hm]; simp only [Option.bind_some]; rw [show (1 : Int) = ((0 + 1 : Nat) : Int) from rfl, he]; rfl
def wantP (list : ItemL) (s : Int) : Bool := !hasB list s && (decide (1 ≤ s) && decide (s ≤ 60))
theorem lacks_impl (t0 t1 t2 t3 t4 : Int) (xs : List (Int × Unit)) (list : ItemL) (ms : List Int) (h : list.length ≤ 1048576) (hx : xs.length ≤ 1048576) (hm : impl_Missing list t2 = some (ofInts ms, ())) (hms : ms.length ≤ 20) (hmp : ∀ s ∈ ms, 1 ≤ s ∧ s ≤ 60 ∧ hasB list s = false) :
   impl_Lacks t0 t1 t2 t3 t4 xs list = some (t0, t1, t2, t3, t4, ofInts (lackL list xs ms), ()) := by
 have hloop := loop_run (round := impl_Lacks_r0) (e := .inl ((0 : Int), (0 : Int), (0 : Int), (0 : Int), (0 : Int), [], t0, t1, t2, t3, t4, xs, ofInts (ms ++ (intsOf xs).filter (wantP list)), ())) xs.length
   (fun k => (list, (0 : Int), (0 : Int), (0 : Int), (0 : Int), (0 : Int), [], t0, t1, t2, t3, t4, xs, ofInts (ms ++ (intsOf (xs.take k)).filter (wantP list)), xs, ((List.length xs : Nat) : Int), ((k : Nat) : Int), ())) (by
     simp only [impl_Lacks_r0, impl_Lacks_c0, lt_nat_irr, cond_false, List.take_length]) (fun k hk => by
     have hfl : ((intsOf (xs.take k)).filter (wantP list)).length ≤ 1048576 := by
       have h1 := List.length_filter_le (wantP list) (intsOf (xs.take k)); have h2 := intsOf_len (xs.take k); rw [List.length_take] at h2; omega
     have hl := ofInts_len (ms ++ (intsOf (xs.take k)).filter (wantP list)); rw [List.length_append] at hl; have hnext : (intsOf (xs.take (k + 1))).filter (wantP list) = (intsOf (xs.take k)).filter (wantP list) ++ (if wantP list xs[k].1 then [xs[k].1] else []) := by
       rw [List.take_succ_eq_append_getElem hk]; unfold intsOf; rw [List.map_append, List.filter_append, List.map_cons, List.map_nil, List.filter_cons, List.filter_nil]
     have hdef : wantP list xs[k].1 = (!(itemAt list xs[k].1).isSome && (decide (1 ≤ xs[k].1) && decide (xs[k].1 ≤ 60))) := rfl; simp only [impl_Lacks_r0, impl_Lacks_c0, lt_nat_true hk, zero_le_nat, cond_true, toNat_nat, List.getElem?_eq_getElem hk, Option.bind_some, itemat_impl list _ h, itemOut_has, in_eq', ble_true (show ((ofInts (ms ++ (intsOf (xs.take k)).filter (wantP list))).length + 1) * 8 ≤ lim by unfold lim; omega), succ_wrap (show k < 4611686018427387904 by omega), hnext]
     cases c1 : (itemAt list xs[k].1).isSome
     · cases c2 : (decide (1 ≤ xs[k].1) && decide (xs[k].1 ≤ 60))
       · rw [hdef, c1, c2]; simp
       · rw [hdef, c1, c2]; simp [ofInts]
     · rw [hdef, c1]; simp)
 have hloop : loopV impl_Lacks_r0 (list, (0 : Int), (0 : Int), (0 : Int), (0 : Int), (0 : Int), [], t0, t1, t2, t3, t4, xs, ofInts (ms ++ (intsOf (xs.take 0)).filter (wantP list)), xs, ((List.length xs : Nat) : Int), (0 : Int), ()) = _ := hloop; rw [show ms ++ (intsOf (xs.take 0)).filter (wantP list) = ms by simp [intsOf]] at hloop; have c2 : impl_copyToken t0 t1 t2 t3 t4 xs = some (t0, t1, t2, t3, t4, xs, ()) := by
   unfold impl_copyToken; rw [clone_int xs hx]; rfl
 have hwl : (ms ++ (intsOf xs).filter (wantP list)).length ≤ 1048576 + 20 := by
   rw [List.length_append]; have h1 := List.length_filter_le (wantP list) (intsOf xs); have h2 := intsOf_len xs; omega
 generalize hW : ms ++ (intsOf xs).filter (wantP list) = W at *; have hsort : sortT (ofInts W) = some (ofInts (W.mergeSort fun x y => decide (x ≤ y)), ()) := by
   unfold sortT; rw [ble_true (show (ofInts W).length ≤ lim by rw [ofInts_len]; unfold lim; omega), intsOf_ofInts]; rfl
 have hcomp : compactT (ofInts (W.mergeSort fun x y => decide (x ≤ y))) = some (ofInts (Lib.compact (W.mergeSort fun x y => decide (x ≤ y))), ()) := by
   unfold compactT; rw [ble_true (show (ofInts (W.mergeSort fun x y => decide (x ≤ y))).length ≤ lim by rw [ofInts_len, List.length_mergeSort]; unfold lim; omega), intsOf_ofInts]; rfl
 have hC : Lib.compact (W.mergeSort fun x y => decide (x ≤ y)) = (ints 60).filter (lackP list xs ms) := by
   refine strict_ext _ _ (compact_strict _ (sort_le W)) ((ints_strict 60).filter _) fun z => ?_
   rw [compact_mem, sort_mem, ← hW, List.mem_append, List.mem_filter, List.mem_filter, ints_mem]; unfold wantP lackP; simp only [Bool.and_eq_true, Bool.or_eq_true, decide_eq_true_eq, Bool.not_eq_true']
   constructor
   · rintro (h1 | ⟨h1, h2, h3, h4⟩)
     · exact ⟨⟨(hmp z h1).1, (hmp z h1).2.1⟩, .inr h1⟩
     · exact ⟨⟨h3, h4⟩, .inl ⟨h2, h1⟩⟩
   · rintro ⟨⟨h3, h4⟩, ⟨h2, h1⟩ | h1⟩
     · exact .inr ⟨h1, h2, h3, h4⟩
     · exact .inl h1
 rw [hC] at hcomp; have hCl : ((ints 60).filter (lackP list xs ms)).length ≤ 60 := Nat.le_trans (List.length_filter_le _ _) (by simp [ints]); have hmin : (if (20 : Int) < ((List.length (ofInts ((ints 60).filter (lackP list xs ms))) : Nat) : Int) then (20 : Int) else ((List.length (ofInts ((ints 60).filter (lackP list xs ms))) : Nat) : Int)) = ((min 20 ((ints 60).filter (lackP list xs ms)).length : Nat) : Int) := by
   rw [ofInts_len]
   split <;> omega
 have htake : List.take (min 20 ((ints 60).filter (lackP list xs ms)).length) (ofInts ((ints 60).filter (lackP list xs ms))) = ofInts (lackL list xs ms) := by
   unfold lackL; rw [ofInts_take]
   by_cases h20 : 20 ≤ ((ints 60).filter (lackP list xs ms)).length
   · rw [Nat.min_eq_left h20]
   · rw [Nat.min_eq_right (by omega), List.take_of_length_le (by rw [ofInts_len]; omega), List.take_of_length_le (by rw [ofInts_len]; omega)]
 have hcl := clone_int (ofInts (lackL list xs ms)) (by rw [ofInts_len]; unfold lackL; rw [List.length_take]; omega); unfold impl_Lacks; rw [c2, hm]; simp only [Option.bind_some]; rw [hloop]; simp only [outK_inl, hsort, hcomp, Option.bind_some, hmin, zero_le_nat, cond_true, toNat_nat, List.drop_zero, htake, hcl, dec_true (show ((min 20 ((ints 60).filter (lackP list xs ms)).length : Nat) : Int) ≤ ((List.length (ofInts ((ints 60).filter (lackP list xs ms))) : Nat) : Int) by rw [ofInts_len]; omega)]
end Go.TM
