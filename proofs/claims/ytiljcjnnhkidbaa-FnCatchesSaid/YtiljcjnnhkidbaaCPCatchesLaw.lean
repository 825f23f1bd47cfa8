/- A drawn member that catches an item has it: the law. -/
import Derived.Test.YtiljcjnnhkidbaaCPRingW
set_option linter.unusedSimpArgs false
set_option linter.unusedVariables false
namespace Go.TM
open Go
theorem sameI_self (l : ItemL) (h : l.length ≤ 1048576) : laws_sameItems l l = some (true, ()) := by
 have hl := loop_run (round := laws_sameItems_r0) (e := .inl ()) l.length (fun k => (l, l, ((k : Nat) : Int), ())) (by
     simp only [laws_sameItems_r0, laws_sameItems_c0, lt_nat_irr, cond_false]) (fun k hk => by
     simp only [laws_sameItems_r0, laws_sameItems_c0, lt_nat_true hk, zero_le_nat, cond_true, cond_false, toNat_nat, List.getElem?_eq_getElem hk, Option.bind_some, decide_true, strEq_self, Bool.and_self, Bool.not_true, succ_wrap (show k < 4611686018427387904 by omega)])
 have hl : loopV laws_sameItems_r0 (l, l, (0 : Int), ()) = _ := hl; unfold laws_sameItems; simp only [decide_true, Bool.not_true, cond_false, hl, outK_inl]
theorem putR_at (x : ItemR) : (xs : ItemL) → Srt xs → itemAt (putR xs x) x.1 = some ((itemAt xs x.1).getD x)
 | [], _ => by unfold putR itemAt; simp
 | r :: xs, h => by
   unfold Srt at h; rw [List.pairwise_cons] at h; have ih := putR_at x xs h.2; unfold itemAt at ih ⊢; unfold putR
   by_cases h1 : r.1 < x.1
   · rw [if_pos h1, List.find?_cons, List.find?_cons, dec_false (show ¬ r.1 = x.1 by omega)]; exact ih
   · rw [if_neg h1]
     by_cases h2 : r.1 = x.1
     · rw [if_pos h2, List.find?_cons, dec_true h2]; rfl
     · rw [if_neg h2, List.find?_cons, dec_true (rfl : x.1 = x.1)]; have : (r :: xs).find? (fun q => decide (q.1 = x.1)) = none := by
         rw [List.find?_eq_none]; intro q hq; rcases List.mem_cons.1 hq with rfl | hq
         · simpa using h2
         · have := h.1 q hq; have : q.1 ≠ x.1 := by omega
           simpa using this
       rw [this]; rfl
theorem putR_twice {x : ItemR} {xs : ItemL} (h : Srt xs) : putR (putR xs x) x = putR xs x := by
 rw [put_spec_eq x (putR xs x) (putR_srt h)]; obtain ⟨r, hr, e⟩ := putR_new (m := x) (xs := xs); have : hasR (putR xs x) x.1 = true := by
   unfold hasR; rw [List.any_eq_true]; exact ⟨r, hr, dec_true e⟩
 rw [this]; rfl
theorem catches_law (code : List (Int × Unit)) : laws_FnCatches code = some (true, ()) := by
 unfold laws_FnCatches laws_big
 by_cases hb : (1048576 : Int) < ((List.length code : Nat) : Int)
 · rw [dec_true hb]; rfl
 rw [dec_false hb]; obtain ⟨m, x, e1, hm⟩ := drawcaught_ok code (by omega); have hi := (items_small _ hm.items).1; have hW : MatW m ≤ 1048576 := Nat.le_trans hm.small (by decide); have e2 := (catch_same m x hW).2; have e3 := (item_ok x).1; simp only [Option.bind_some, cond_false, e1, e2]
 cases hx : itemB x
 · have hc : catchR m x = m := by
     unfold catchR putB; rw [hx]
     cases matB m <;> cases itemsB m.2.2.2.1 <;> rfl
   rw [hc, e2]; simp only [Option.bind_some, itemat_spec _ _ (show m.2.2.2.1.length ≤ 1048576 by omega), e3, hx, Bool.not_false, cond_true, sameI_self _ (show m.2.2.2.1.length ≤ 1048576 by omega)]
 have hq := (item_ok x).2.2.1 hx; rw [catchR_ok hm hq]; have hn := catch_step hm hq; have hs := srt_of hm.items; have e4 := (catch_same (withItems m (putR m.2.2.2.1 x)) x (Nat.le_trans hn.small (by decide))).2; rw [catchR_ok hn hq] at e4; have e5 : withItems (withItems m (putR m.2.2.2.1 x)) (putR (withItems m (putR m.2.2.2.1 x)).2.2.2.1 x) = withItems m (putR m.2.2.2.1 x) := by
   show withItems m (putR (putR m.2.2.2.1 x) x) = _; rw [putR_twice hs]
 rw [e5] at e4; have e6 := (mat_ok (withItems m (putR m.2.2.2.1 x)) (Nat.le_trans hn.small (by decide))).2.1; rw [(mat_ok (withItems m (putR m.2.2.2.1 x)) (Nat.le_trans hn.small (by decide))).2.2.2 hn] at e6; have hni := (items_small _ hn.items).1; have hni : (putR m.2.2.2.1 x).length ≤ 60 := hni; have e7 := itemat_spec (putR m.2.2.2.1 x) x.1 (by omega); rw [putR_at x m.2.2.2.1 hs] at e7; have e8 := itemat_spec m.2.2.2.1 x.1 (by omega); have e9 := sameI_self (putR m.2.2.2.1 x) (by omega); have e7 : spec_ItemAt (withItems m (putR m.2.2.2.1 x)).2.2.2.1 x.1 = _ := e7; have e9 : laws_sameItems (withItems m (putR m.2.2.2.1 x)).2.2.2.1 (withItems m (putR m.2.2.2.1 x)).2.2.2.1 = _ := e9; have eh : (withItems m (putR m.2.2.2.1 x)).2.2.2.2.2.2.2.2.2.1 = m.2.2.2.2.2.2.2.2.2.1 := rfl; generalize withItems m (putR m.2.2.2.1 x) = n at *; simp only [e4, e6, e7, e8, e3, hx, Option.bind_some, Bool.not_true, cond_false, cond_true]
 cases itemAt m.2.2.2.1 x.1 with
 | none => simp only [Option.getD_none, itemOut, decide_true, strEq_self, Bool.and_self, Bool.not_false, cond_true, cond_false, e9, Option.bind_some, eh]
 | some r => simp only [Option.getD_some, itemOut, decide_true, strEq_self, Bool.and_self, cond_true, e9, Option.bind_some, eh]
end Go.TM
