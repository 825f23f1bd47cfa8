/- Those who go on together: the law. -/
import Derived.Test.YtiljcjnnhkidbaaAPDrawBundle
set_option linter.unusedSimpArgs false
set_option linter.unusedVariables false
namespace Go.TM
open Go
theorem items_at {xs : ItemL} (h : ItemsP xs xs.length) (hl : xs.length ≤ 1048576) : (k : Nat) → k < aruOf xs → ∃ hk : k < xs.length, xs[k].1 = ((k + 1 : Nat) : Int) := by
 intro k
 induction k using Nat.strongRecOn with
 | ind k ih =>
   intro hk; obtain ⟨_, a1, _⟩ := (aru_ok xs hl).2.2; obtain ⟨r, hr⟩ := Option.isSome_iff_exists.1 (a1 k hk); obtain ⟨hm, he⟩ := itemAt_mem hr; obtain ⟨j, hj, rfl⟩ := List.mem_iff_getElem.1 hm; have h1 := items_seq xs h j hj
   by_cases e : j = k
   · subst e; exact ⟨hj, he⟩
   · obtain ⟨_, h2⟩ := ih j (by omega) (by omega); omega
theorem whole_take {xs : ItemL} (h : ItemsP xs xs.length) (hl : xs.length ≤ 1048576) : wholeR xs = xs.take (aruOf xs) := by
 have key : wholeR xs = (xs.take (aruOf xs)).filter (fun r => decide (r.1 ≤ ((aruOf xs : Nat) : Int))) ++ (xs.drop (aruOf xs)).filter (fun r => decide (r.1 ≤ ((aruOf xs : Nat) : Int))) := by
   rw [← List.filter_append, List.take_append_drop]; rfl
 rw [key, List.filter_eq_self.2 (fun r hr => ?_), List.filter_eq_nil_iff.2 (fun r hr => ?_), List.append_nil]
 · obtain ⟨j, hj, rfl⟩ := List.mem_iff_getElem.1 hr; rw [List.getElem_drop, decide_eq_true_eq]; rw [List.length_drop] at hj; have := items_seq xs h (aruOf xs + j) (by omega); omega
 · obtain ⟨j, hj, rfl⟩ := List.mem_iff_getElem.1 hr; rw [List.length_take] at hj; obtain ⟨_, h2⟩ := items_at h hl j (by omega); rw [List.getElem_take, decide_eq_true_eq, h2]; omega
def FromOne (l : ItemL) : Prop := ∀ k (hk : k < l.length), l[k].1 = ((k + 1 : Nat) : Int)
theorem whole_from {xs : ItemL} (h : ItemsP xs xs.length) (hl : xs.length ≤ 1048576) : FromOne (wholeR xs) := by
 rw [whole_take h hl]; intro k hk; rw [List.length_take] at hk; obtain ⟨_, h2⟩ := items_at h hl k (by omega); rw [List.getElem_take]; exact h2
theorem from_drop {l : ItemL} (h : FromOne l) (n : Nat) : l.filter (fun r => decide (((n : Nat) : Int) < r.1)) = l.drop n := by
 have key : l.filter (fun r => decide (((n : Nat) : Int) < r.1)) = (l.take n).filter (fun r => decide (((n : Nat) : Int) < r.1)) ++ (l.drop n).filter (fun r => decide (((n : Nat) : Int) < r.1)) := by
   rw [← List.filter_append, List.take_append_drop]
 rw [key, List.filter_eq_nil_iff.2 (fun r hr => ?_), List.filter_eq_self.2 (fun r hr => ?_), List.nil_append]
 · obtain ⟨j, hj, rfl⟩ := List.mem_iff_getElem.1 hr; rw [List.length_drop] at hj; rw [List.getElem_drop, decide_eq_true_eq, h (n + j) (by omega)]; omega
 · obtain ⟨j, hj, rfl⟩ := List.mem_iff_getElem.1 hr; rw [List.length_take] at hj; rw [List.getElem_take, decide_eq_true_eq, h j (by omega)]; omega
theorem all_from (xs : List BunR) (c : Int) (ms : MemL) (id : Int) (h0 : ms.length ≤ 1048576) (h : xs.length + wl W_iiiLiiisE xs ≤ 1048576) : FromOne (allR xs c ms id) := by
 have hll : ∀ l ∈ (withOf xs c ms id).map (bunItems xs c), l.1.length ≤ 1048576 := fun l hl => by
   obtain ⟨d, _, rfl⟩ := List.mem_map.1 hl; exact bunItems_len xs c h d
 have hi := union_items _ (out := []) nil_items hll; exact whole_from hi (items_len hi)
theorem rest_drop (xs : List BunR) (c : Int) (ms : MemL) (id : Int) (h0 : ms.length ≤ 1048576) (h : xs.length + wl W_iiiLiiisE xs ≤ 1048576) (n : Nat) : restR xs c ms id ((n : Nat) : Int) = (restR xs c ms id 0).drop n := by
 have hf := all_from xs c ms id h0 h; unfold restR
 cases bunAt xs c id with
 | none => exact List.drop_nil.symm
 | some mine =>
   show (bif decide (mine.2.2.1 = 0) then [] else (allR xs c ms id).filter fun r => decide (((n : Nat) : Int) < r.1)) = (bif decide (mine.2.2.1 = 0) then [] else (allR xs c ms id).filter fun r => decide ((0 : Int) < r.1)).drop n
   cases decide (mine.2.2.1 = 0)
   · have h1 := from_drop hf 0; rw [List.drop_zero] at h1; have h1 : (allR xs c ms id).filter (fun r => decide ((0 : Int) < r.1)) = _ := h1; rw [cond_false, cond_false, h1, from_drop hf n]
   · exact List.drop_nil.symm
theorem with_fold {xs : List BunR} {c id : Int} {mine : BunR} : (ms : MemL) → (out : MemL) → ∃ l : MemL, ms.foldl (fun out m => withStep xs c id mine out m.1) out = out ++ l ∧ l.Sublist ms ∧ (∀ d ∈ l, ∃ b, bunAt xs c d.1 = some b ∧ (d.1 = id ∨ (b.2.2.1 = mine.2.2.1 ∧ 0 < b.2.2.1))) ∧
   ((id, ()) ∈ ms → bunAt xs c id ≠ none → (id, ()) ∈ out ++ l)
 | [], out => ⟨[], (List.append_nil _).symm, List.Sublist.refl _, (fun d h => by cases h), (fun h => by cases h)⟩
 | m :: ms, out => by
   obtain ⟨l, h1, h2, h3, h4⟩ := with_fold (xs := xs) (c := c) (id := id) (mine := mine) ms (withStep xs c id mine out m.1); rw [List.foldl_cons, h1]; have hstep : (withStep xs c id mine out m.1 = out ∧ (m.1 = id → bunAt xs c id ≠ none → (id, ()) ∈ out)) ∨ (withStep xs c id mine out m.1 = out ++ [m] ∧ ∃ b, bunAt xs c m.1 = some b ∧ (m.1 = id ∨ (b.2.2.1 = mine.2.2.1 ∧ 0 < b.2.2.1))) := by
     unfold withStep
     cases hb : bunAt xs c m.1 with
     | none => exact .inl ⟨rfl, fun e hn => absurd (e ▸ hb) hn⟩
     | some b =>
       by_cases hc : (m.1 = id ∨ (b.2.2.1 = mine.2.2.1 ∧ 0 < b.2.2.1)) ∧ (m.1, ()) ∉ out
       · exact .inr ⟨by show (if _ then _ else _) = _; rw [if_pos hc], b, rfl, hc.1⟩
       · refine .inl ⟨by show (if _ then _ else _) = _; rw [if_neg hc], fun e _ => ?_⟩; rw [← e]; exact Classical.byContradiction fun hn => hc ⟨.inl e, hn⟩
   rcases hstep with ⟨e, hid⟩ | ⟨e, b, hb, hq⟩
   · rw [e] at h4 ⊢; refine ⟨l, rfl, h2.cons m, h3, fun hm hn => ?_⟩; rcases List.mem_cons.1 hm with hm | hm
     · exact List.mem_append_left _ (hid (by rw [← hm]) hn)
     · exact h4 hm hn
   · rw [e] at h4 ⊢; refine ⟨m :: l, by rw [List.append_assoc]; rfl, h2.cons_cons m, fun d hd => ?_, fun hm hn => ?_⟩
     · rcases List.mem_cons.1 hd with rfl | hd
       · exact ⟨b, hb, hq⟩
       · exact h3 d hd
     · rcases List.mem_cons.1 hm with hm | hm
       · rw [hm]; exact List.mem_append_right _ List.mem_cons_self
       · have := h4 hm hn; rw [List.append_assoc] at this; exact this
theorem with_facts (xs : List BunR) (c : Int) (ms : MemL) (id : Int) : (withOf xs c ms id).Sublist ms ∧ (∀ d ∈ withOf xs c ms id, ∃ mine b, bunAt xs c id = some mine ∧ bunAt xs c d.1 = some b ∧ (d.1 = id ∨ (b.2.2.1 = mine.2.2.1 ∧ 0 < b.2.2.1))) ∧ ((id, ()) ∈ ms → bunAt xs c id ≠ none → (id, ()) ∈ withOf xs c ms id) := by
 unfold withOf
 cases hm : bunAt xs c id with
 | none => exact ⟨List.nil_sublist _, (fun d h => by cases h), fun _ h => absurd rfl h⟩
 | some mine =>
   obtain ⟨l, h1, h2, h3, h4⟩ := with_fold (xs := xs) (c := c) (id := id) (mine := mine) ms []; rw [List.nil_append] at h1 h4; show (ms.foldl (fun out m => withStep xs c id mine out m.1) []).Sublist ms ∧ _; refine ⟨h1 ▸ h2, fun d hd => ?_, fun q1 q2 => ?_⟩
   · have hd : d ∈ ms.foldl (fun out m => withStep xs c id mine out m.1) [] := hd; rw [h1] at hd; obtain ⟨b, g1, g2⟩ := h3 d hd; exact ⟨mine, b, rfl, g1, g2⟩
   · show (id, ()) ∈ ms.foldl (fun out m => withStep xs c id mine out m.1) []; rw [h1]; exact h4 q1 (by rw [hm]; exact q2)
theorem with_same {xs : List BunR} {c id d : Int} {mine b : BunR} (hm : bunAt xs c id = some mine) (hb : bunAt xs c d = some b) (ho : b.2.2.1 = mine.2.2.1) (hp : 0 < b.2.2.1) (ms : MemL) : withOf xs c ms d = withOf xs c ms id := by
 unfold withOf; rw [hm, hb]; show ms.foldl (fun out m => withStep xs c d b out m.1) [] = ms.foldl (fun out m => withStep xs c id mine out m.1) []
 congr 1
 funext out m
 unfold withStep
 cases hq : bunAt xs c m.1 with
 | none => rfl
 | some q =>
   have : ((m.1 = d ∨ (q.2.2.1 = b.2.2.1 ∧ 0 < q.2.2.1)) ∧ (m.1, ()) ∉ out) ↔ ((m.1 = id ∨ (q.2.2.1 = mine.2.2.1 ∧ 0 < q.2.2.1)) ∧ (m.1, ()) ∉ out) := by
     refine and_congr ⟨fun h => ?_, fun h => ?_⟩ Iff.rfl
     · rcases h with e | ⟨h1, h2⟩
       · rw [e, hb] at hq
         cases hq
         exact .inr ⟨ho, hp⟩
       · exact .inr ⟨h1.trans ho, h2⟩
     · rcases h with e | ⟨h1, h2⟩
       · rw [e, hm] at hq
         cases hq
         exact .inr ⟨ho.symm, by omega⟩
       · exact .inr ⟨h1.trans ho.symm, h2⟩
   show (if _ then _ else _) = (if _ then _ else _)
   by_cases hc : (m.1 = d ∨ (q.2.2.1 = b.2.2.1 ∧ 0 < q.2.2.1)) ∧ (m.1, ()) ∉ out
   · rw [if_pos hc, if_pos (this.1 hc)]
   · rw [if_neg hc, if_neg (fun h => hc (this.2 h))]
theorem rest_with {xs : List BunR} {c id d : Int} {mine b : BunR} (hm : bunAt xs c id = some mine) (hb : bunAt xs c d = some b) (ho : b.2.2.1 = mine.2.2.1) (hp : 0 < b.2.2.1) (ms : MemL) (n : Int) : restR xs c ms d n = restR xs c ms id n := by
 unfold restR allR; rw [hm, hb, with_same hm hb ho hp]; show (bif decide (b.2.2.1 = 0) then _ else _) = (bif decide (mine.2.2.1 = 0) then _ else _); rw [ho]
theorem sameI_self (l : MemL) (h : l.length ≤ 1048576) : laws_sameInts l l = some (true, ()) := by
 have hl := loop_run (round := laws_sameInts_r0) (e := .inl ()) l.length (fun k => (l, l, ((k : Nat) : Int), ())) (by
   simp only [laws_sameInts_r0, laws_sameInts_c0, lt_nat_irr, cond_false]) (fun k hk => by
   simp only [laws_sameInts_r0, laws_sameInts_c0, lt_nat_true hk, zero_le_nat, cond_true, toNat_nat, List.getElem?_eq_getElem hk, Option.bind_some, decide_true, Bool.not_true, cond_false, succ_wrap (show k < 4611686018427387904 by omega)])
 have hl : loopV laws_sameInts_r0 (l, l, (0 : Int), ()) = _ := hl; unfold laws_sameInts; rw [dec_true (rfl : ((List.length l : Nat) : Int) = ((List.length l : Nat) : Int)), hl]; rfl
theorem sameL_self (l : ItemL) (h : l.length ≤ 1048576) : laws_sameItems l l = some (true, ()) := by
 have hl := loop_run (round := laws_sameItems_r0) (e := .inl ()) l.length (fun k => (l, l, ((k : Nat) : Int), ())) (by
   simp only [laws_sameItems_r0, laws_sameItems_c0, lt_nat_irr, cond_false]) (fun k hk => by
   simp only [laws_sameItems_r0, laws_sameItems_c0, lt_nat_true hk, zero_le_nat, cond_true, toNat_nat, List.getElem?_eq_getElem hk, Option.bind_some, decide_true, strEq_self, Bool.and_self, Bool.not_true, cond_false, succ_wrap (show k < 4611686018427387904 by omega)])
 have hl : loopV laws_sameItems_r0 (l, l, (0 : Int), ()) = _ := hl; unfold laws_sameItems; rw [dec_true (rfl : ((List.length l : Nat) : Int) = ((List.length l : Nat) : Int)), hl]; rfl
theorem rises_self (l : MemL) (h : l.length ≤ 1048576) (hs : ∀ i j (hi : i < l.length) (hj : j < l.length), i < j → l[i].1 < l[j].1) : laws_rises l = some (true, ()) := by
 have hl := loop_run (round := laws_rises_r0) (e := .inl ()) (l.length - 1) (fun k => (l, ((k + 1 : Nat) : Int), ())) (by
   simp only [laws_rises_r0, laws_rises_c0, dec_false (show ¬ ((l.length - 1 + 1 : Nat) : Int) < ((l.length : Nat) : Int) by omega), cond_false]) (fun k hk => by
   have h1 : k < l.length := by omega
   have h2 : k + 1 < l.length := by omega
   have := hs k (k + 1) h1 h2 (by omega); have hw : IntKind.i64.wrap (((k + 1 : Nat) : Int) - (1 : Int)) = ((k : Nat) : Int) := by rw [wrap_id] <;> omega
   simp only [laws_rises_r0, laws_rises_c0, dec_true (show ((k + 1 : Nat) : Int) < ((l.length : Nat) : Int) by omega), hw, zero_le_nat, cond_true, toNat_nat, List.getElem?_eq_getElem h1, List.getElem?_eq_getElem h2, Option.bind_some, dec_false (show ¬ l[k + 1].1 ≤ l[k].1 by omega), cond_false, succ_wrap (show k + 1 < 4611686018427387904 by omega)])
 have hl : loopV laws_rises_r0 (l, (1 : Int), ()) = _ := hl; unfold laws_rises; rw [hl]; rfl
theorem together_law (code : List (Int × Unit)) : laws_FnTogether code = some (true, ()) := by
 unfold laws_FnTogether laws_big
 by_cases hb : (1048576 : Int) < ((List.length code : Nat) : Int)
 · rw [dec_true hb]; rfl
 rw [dec_false hb]; obtain ⟨s0, e0⟩ := new_ok code (by omega); obtain ⟨c, ms, xs, a1, s1, e1, hr, hf, d1⟩ := bundles_ok code 0 s0 ⟨by omega, by omega, by omega⟩; have hd : spec_DrawTogether code = some (c, ms, xs, ()) := by
   unfold spec_DrawTogether; simp only [e0, e1, Option.bind_some]
 have hms : ms.length ≤ 5 := hr.len; have hw := hf.w; have h0 : ms.length ≤ 1048576 := by omega
 have h : xs.length + wl W_iiiLiiisE xs ≤ 1048576 := by omega
 obtain ⟨g1, g2⟩ := allHere_same c ms xs h0 h; have hn : impl_TogetherWith c ms [] 1 = some ([], ()) := (together_same c ms [] 1 h0 (by simp [wl_nil])).2.1; have l0 : loopV laws_FnTogether_r0 (c, ms, xs, (0 : Int), ()) = some (.inl (c, ms, xs, ())) := by
   have := loop_run (round := laws_FnTogether_r0) (e := .inl (c, ms, xs, ())) ms.length (fun k => (c, ms, xs, ((k : Nat) : Int), ())) (by
     simp only [laws_FnTogether_r0, laws_FnTogether_c0, lt_nat_irr, cond_false]) (fun k hk => by
     generalize hid : ms[k].1 = id; have hmem : (id, ()) ∈ ms := by
       have := List.getElem_mem hk; rw [← hid]; exact this
     obtain ⟨t1, t2, t3⟩ := together_same c ms xs id h0 h; have r2 := rest_impl c ms xs id 0 h0 h; have rs := rest_small xs c ms id 0 h; obtain ⟨w1, w2, w3⟩ := with_facts xs c ms id; have hrise := rises_self (withOf xs c ms id) (by omega) (fun i j hi hj hij => by
       have hp : List.Pairwise (fun a b : Int × Unit => a.1 < b.1) ms := List.pairwise_iff_getElem.2 fun i j hi hj hij => hr.rising.2.2 i j hi hj hij
       exact List.pairwise_iff_getElem.1 (hp.sublist w1) i j hi hj hij)
     have l2 : loopV laws_FnTogether_r2 (c, ms, xs, ((k : Nat) : Int), id, withOf xs c ms id, restR xs c ms id 0, (0 : Int), ()) = some (.inl (c, ms, xs, ((k : Nat) : Int), id, withOf xs c ms id, restR xs c ms id 0, ())) := by
       have := loop_run (round := laws_FnTogether_r2) (e := .inl (c, ms, xs, ((k : Nat) : Int), id, withOf xs c ms id, restR xs c ms id 0, ())) (withOf xs c ms id).length (fun j => (c, ms, xs, ((k : Nat) : Int), id, withOf xs c ms id, restR xs c ms id 0, ((j : Nat) : Int), ())) (by
         simp only [laws_FnTogether_r2, laws_FnTogether_c2, lt_nat_irr, cond_false]) (fun j hj => by
         obtain ⟨mine, b, q1, q2, q3⟩ := w2 _ (List.getElem_mem hj)
         by_cases e : (withOf xs c ms id)[j].1 = id
         · simp only [laws_FnTogether_r2, laws_FnTogether_c2, lt_nat_true hj, zero_le_nat, cond_true, toNat_nat, blt_true hj, List.getElem?_eq_getElem hj, Option.bind_some, dec_true e, Bool.not_true, cond_false, succ_wrap (show j < 4611686018427387904 by omega)]
         · rcases q3 with q3 | ⟨q3, q4⟩
           · exact absurd q3 e
           · have u1 := (together_same c ms xs (withOf xs c ms id)[j].1 h0 h).2.1; have u2 := rest_impl c ms xs (withOf xs c ms id)[j].1 0 h0 h; rw [with_same q1 q2 q3 q4 ms] at u1; rw [rest_with q1 q2 q3 q4 ms 0] at u2; simp only [laws_FnTogether_r2, laws_FnTogether_c2, lt_nat_true hj, zero_le_nat, cond_true, toNat_nat, blt_true hj, List.getElem?_eq_getElem hj, Option.bind_some, dec_false e, Bool.not_false, u1, u2, sameI_self _ (show (withOf xs c ms id).length ≤ 1048576 by omega), sameL_self _ (show (restR xs c ms id 0).length ≤ 1048576 by omega), Bool.not_true, cond_false, succ_wrap (show j < 4611686018427387904 by omega)])
       exact this
     have l4 : loopV laws_FnTogether_r4 (c, ms, xs, ((k : Nat) : Int), id, withOf xs c ms id, restR xs c ms id 0, (0 : Int), ()) = some (.inl (c, ms, xs, ((k : Nat) : Int), withOf xs c ms id, ())) := by
       have := loop_run (round := laws_FnTogether_r4) (e := .inl (c, ms, xs, ((k : Nat) : Int), withOf xs c ms id, ())) ((restR xs c ms id 0).length + 1) (fun j => (c, ms, xs, ((k : Nat) : Int), id, withOf xs c ms id, restR xs c ms id 0, ((j : Nat) : Int), ())) (by
         simp only [laws_FnTogether_r4, laws_FnTogether_c4, dec_false (show ¬ (((restR xs c ms id 0).length + 1 : Nat) : Int) ≤ (((restR xs c ms id 0).length : Nat) : Int) by omega), cond_false]) (fun j hj => by
         have u2 := rest_impl c ms xs id ((j : Nat) : Int) h0 h; rw [rest_drop xs c ms id h0 h j] at u2; simp only [laws_FnTogether_r4, laws_FnTogether_c4, dec_true (show ((j : Nat) : Int) ≤ (((restR xs c ms id 0).length : Nat) : Int) by omega), zero_le_nat, cond_true, toNat_nat, Option.bind_some, u2, sameL_self _ (show ((restR xs c ms id 0).drop j).length ≤ 1048576 by rw [List.length_drop]; omega), Bool.not_true, cond_false, succ_wrap (show j < 4611686018427387904 by omega)])
       exact this
     simp only [laws_FnTogether_r0, laws_FnTogether_c0, lt_nat_true hk, zero_le_nat, cond_true, toNat_nat, List.getElem?_eq_getElem hk, Option.bind_some, hid, t1, t2, sameI_self _ (show (withOf xs c ms id).length ≤ 1048576 by omega), Bool.not_true, cond_false, hrise, r2, l2, outK_inl, l4, g2]
     cases hh : hereB c ms xs
     · simp only [cond_false, succ_wrap (show k < 4611686018427387904 by omega)]
     · have hin : (id, ()) ∈ withOf xs c ms id := w3 hmem (by
         unfold hereB at hh; have := List.all_eq_true.1 hh _ hmem; intro e; rw [e] at this
         cases this)
       have hlen := List.length_pos_of_mem hin; simp only [cond_true, dec_false (show ¬ (((withOf xs c ms id).length : Nat) : Int) = 0 by omega), cond_false, succ_wrap (show k < 4611686018427387904 by omega)])
   exact this
 simp only [Option.bind_some, cond_false, hd, l0, outK_inl, g1, g2, beq_self_eq_true, cond_true, hn, List.length_nil]; rfl
end Go.TM
