/- A ring's life, as the reference plays it: its events. -/
import Derived.Test.YtiljcjnnhkidbaaCPRingS
set_option linter.unusedSimpArgs false
set_option linter.unusedVariables false
namespace Go.TM
open Go
theorem again_step {n : Nat} {c : Int} {ms : MemL} {w : WorkR} (h : WorkQ n c ms w) (hn : n ≤ 1000) {k : Nat} (hk : k < w.2.2.1.length) : ∃ a w', spec_l11Again w.1 w.2.1 w.2.2.1 w.2.2.2.1 w.2.2.2.2.1 w.2.2.2.2.2.1 ((k : Nat) : Int) = some (a, w'.1, w'.2.1, w'.2.2.1, w'.2.2.2.1, w'.2.2.2.2.1, w'.2.2.2.2.2.1, ()) ∧ WorkQ (n + 1) c ms w' := by
 obtain ⟨q0, q1, q2⟩ := h.five; have hm := (h.matq _ (List.getElem_mem hk)).1; have hi := (items_small _ hm.items).1; have hf := h.few; have hl : (w.2.2.1[k]).2.2.2.2.2.2.2.2.2.2.2.2.2.2.2.1.length ≤ 20 := by
   rcases hm.last with q | q
   · rw [show (w.2.2.1[k]).2.2.2.2.2.2.2.2.2.2.2.2.2.2.2.1 = [] from q.2.2.2.2.2]; exact Nat.zero_le _
   · exact q.2.2.2.2.2.1
 rw [again_val w hk q0 (by omega) (by omega) (by omega) (by omega)]
 cases hb : blankB (lastT w.2.2.1[k])
 · have ht : TokQ (lastT w.2.2.1[k]) := by
     rcases hm.last with q | q
     · have := (blank_ok (lastT w.2.2.1[k])).2.2.2 q; rw [hb] at this; cases this
     · exact q
   refine ⟨0, againW w w.2.2.1[k], rfl, (h.up (Nat.le_succ n)).fly' (fun f hf => ?_) ?_⟩
   · rcases List.mem_append.1 hf with hf | hf
     · rcases List.mem_append.1 hf with hf | hf
       · exact h.fly f hf
       · rw [List.mem_singleton] at hf; subst hf; exact flyQ_tok ht
     · exact flyQ_tell (fun x hx => items_mem hm.items x (List.mem_filter.1 hx).1) f hf
   · have h1 := tellL_len w.2.2.1 (w.2.2.1[k]).1 5 q0 (ownL w.2.2.1[k]); have h2 : (ownL w.2.2.1[k]).length ≤ 60 := Nat.le_trans (List.length_filter_le _ _) hi; rw [List.length_append, List.length_append, List.length_singleton]; omega
 · exact ⟨1, w, rfl, h.up (Nat.le_succ n)⟩
def newS (f : FlyR) (l : ItemL) : ItemL := l.filter fun x => decide (f.2.2.2.2.1 < x.1)
def addS (w : WorkR) (f : FlyR) (l : ItemL) : WorkR := setS w (w.2.2.2.2.2.1 ++ newS f l)
theorem newS_len (f : FlyR) (l : ItemL) : (newS f l).length ≤ l.length := List.length_filter_le _ _
theorem said_loop (w : WorkR) (f : FlyR) (l : ItemL) (t : TokR) (h1 : w.2.2.2.2.2.1.length ≤ 1048576) (h2 : l.length ≤ 1048576) : loopV spec_l11Come_r0 (w.1, w.2.1, w.2.2.1, w.2.2.2.1, w.2.2.2.2.1, w.2.2.2.2.2.1, f.1, f.2.1, f.2.2.1, f.2.2.2.1, f.2.2.2.2.1, f.2.2.2.2.2.1, f.2.2.2.2.2.2.1, f.2.2.2.2.2.2.2.1, f.2.2.2.2.2.2.2.2.1, f.2.2.2.2.2.2.2.2.2.1, f.2.2.2.2.2.2.2.2.2.2.1, f.2.2.2.2.2.2.2.2.2.2.2.1, l, t.1, t.2.1, t.2.2.1, t.2.2.2.1, t.2.2.2.2.1, t.2.2.2.2.2.1, (0 : Int), ()) = some (.inl ((addS w f l).1, (addS w f l).2.1, (addS w f l).2.2.1, (addS w f l).2.2.2.1, (addS w f l).2.2.2.2.1, (addS w f l).2.2.2.2.2.1, f.1, f.2.1, f.2.2.1, f.2.2.2.1, f.2.2.2.2.1, f.2.2.2.2.2.1, f.2.2.2.2.2.2.1, f.2.2.2.2.2.2.2.1, f.2.2.2.2.2.2.2.2.1, f.2.2.2.2.2.2.2.2.2.1, f.2.2.2.2.2.2.2.2.2.2.1, f.2.2.2.2.2.2.2.2.2.2.2.1, l, t.1, t.2.1, t.2.2.1, t.2.2.2.1, t.2.2.2.2.1, t.2.2.2.2.2.1, ())) := by
 have l1 := loop_run (round := spec_l11Come_r0) (e := .inl ((addS w f l).1, (addS w f l).2.1, (addS w f l).2.2.1, (addS w f l).2.2.2.1, (addS w f l).2.2.2.2.1, (addS w f l).2.2.2.2.2.1, f.1, f.2.1, f.2.2.1, f.2.2.2.1, f.2.2.2.2.1, f.2.2.2.2.2.1, f.2.2.2.2.2.2.1, f.2.2.2.2.2.2.2.1, f.2.2.2.2.2.2.2.2.1, f.2.2.2.2.2.2.2.2.2.1, f.2.2.2.2.2.2.2.2.2.2.1, f.2.2.2.2.2.2.2.2.2.2.2.1, l, t.1, t.2.1, t.2.2.1, t.2.2.2.1, t.2.2.2.2.1, t.2.2.2.2.2.1, ())) l.length (fun k => ((addS w f (l.take k)).1, (addS w f (l.take k)).2.1, (addS w f (l.take k)).2.2.1, (addS w f (l.take k)).2.2.2.1, (addS w f (l.take k)).2.2.2.2.1, (addS w f (l.take k)).2.2.2.2.2.1, f.1, f.2.1, f.2.2.1, f.2.2.2.1, f.2.2.2.2.1, f.2.2.2.2.2.1, f.2.2.2.2.2.2.1, f.2.2.2.2.2.2.2.1, f.2.2.2.2.2.2.2.2.1, f.2.2.2.2.2.2.2.2.2.1, f.2.2.2.2.2.2.2.2.2.2.1, f.2.2.2.2.2.2.2.2.2.2.2.1, l, t.1, t.2.1, t.2.2.1, t.2.2.2.1, t.2.2.2.2.1, t.2.2.2.2.2.1, ((k : Nat) : Int), ())) (by
   simp only [spec_l11Come_r0, spec_l11Come_c0, lt_nat_irr, cond_false, List.take_length]) (fun k hk => by
   have hl := newS_len f (l.take k); rw [List.length_take] at hl; have hb1 : Nat.ble ((0 + (w.2.2.2.2.2.1 ++ newS f (l.take k)).length) * 40) lim = true := ble_true (by rw [List.length_append]; unfold lim; omega); have hb2 : Nat.ble (((w.2.2.2.2.2.1 ++ newS f (l.take k)).length + 1) * 40) lim = true := ble_true (by rw [List.length_append]; unfold lim; omega); have e : newS f (l.take (k + 1)) = newS f (l.take k) ++ (if decide (f.2.2.2.2.1 < (l[k]).1) = true then [l[k]] else []) := by
     unfold newS; rw [List.take_succ_eq_append_getElem hk, List.filter_append, List.filter_cons, List.filter_nil]
   simp only [addS, setS, e, spec_l11Come_r0, spec_l11Come_c0, lt_nat_true hk, blt_true hk, zero_le_nat, cond_true, toNat_nat, List.getElem?_eq_getElem hk, Option.bind_some, succ_wrap (show k < 4611686018427387904 by omega), hb1, hb2, List.nil_append, both_self]
   by_cases e : f.2.2.2.2.1 < (l[k]).1
   · rw [dec_true e, if_pos rfl, ← List.append_assoc]; rfl
   · rw [dec_false e, if_neg (by decide)]; simp only [cond_false]; rw [List.append_nil])
 have l1 : loopV spec_l11Come_r0 ((addS w f (l.take 0)).1, (addS w f (l.take 0)).2.1, (addS w f (l.take 0)).2.2.1, (addS w f (l.take 0)).2.2.2.1, (addS w f (l.take 0)).2.2.2.2.1, (addS w f (l.take 0)).2.2.2.2.2.1, f.1, f.2.1, f.2.2.1, f.2.2.2.1, f.2.2.2.2.1, f.2.2.2.2.2.1, f.2.2.2.2.2.2.1, f.2.2.2.2.2.2.2.1, f.2.2.2.2.2.2.2.2.1, f.2.2.2.2.2.2.2.2.2.1, f.2.2.2.2.2.2.2.2.2.2.1, f.2.2.2.2.2.2.2.2.2.2.2.1, l, t.1, t.2.1, t.2.2.1, t.2.2.2.1, t.2.2.2.2.1, t.2.2.2.2.2.1, (0 : Int), ()) = _ := l1; have e0 : addS w f (l.take 0) = w := by unfold addS; rw [show newS f (l.take 0) = [] from rfl, List.append_nil]; rfl
 rwa [e0] at l1
theorem come_step {n : Nat} {c : Int} {ms : MemL} {w : WorkR} (h : WorkQ n c ms w) (hn : n ≤ 1000) {f : FlyR} (hf : FlyQ f) : ∃ a w', spec_l11Come w.1 w.2.1 w.2.2.1 w.2.2.2.1 w.2.2.2.2.1 w.2.2.2.2.2.1 f.1 f.2.1 f.2.2.1 f.2.2.2.1 f.2.2.2.2.1 f.2.2.2.2.2.1 f.2.2.2.2.2.2.1 f.2.2.2.2.2.2.2.1 f.2.2.2.2.2.2.2.2.1 f.2.2.2.2.2.2.2.2.2.1 f.2.2.2.2.2.2.2.2.2.2.1 f.2.2.2.2.2.2.2.2.2.2.2.1 = some (a, w'.1, w'.2.1, w'.2.2.1, w'.2.2.2.1, w'.2.2.2.2.1, w'.2.2.2.2.2.1, ()) ∧ WorkQ (n + 1) c ms w' := by
 obtain ⟨q0, q1, q2⟩ := h.five; have hfew := h.few; obtain ⟨a, e1, hq⟩ := at_val w (by omega) f.1; unfold spec_l11Come; simp only [e1, Option.bind_some]; rcases hq with ⟨rfl, _⟩ | ⟨k, hk, rfl, hid⟩
 · exact ⟨1, w, rfl, h.up (Nat.le_succ n)⟩
 obtain ⟨hm, hc, hr⟩ := h.matq _ (List.getElem_mem hk); have hi := (items_small _ hm.items).1; simp only [dec_false (show ¬ ((k : Nat) : Int) < 0 by omega), cond_false, zero_le_nat, cond_true, toNat_nat, List.getElem?_eq_getElem hk, Option.bind_some]
 cases ht : f.2.1
 · have hx := hf.item ht; have e2 := (catch_same w.2.2.1[k] (f.2.2.2.2.2.2.2.2.1, f.2.2.2.2.2.2.2.2.2.1, f.2.2.2.2.2.2.2.2.2.2.1, f.2.2.2.2.2.2.2.2.2.2.2.1, ()) (Nat.le_trans hm.small (by decide))).1; rw [catchR_ok hm hx] at e2; have e3 := mate_val w (by omega) hk (withItems w.2.2.1[k] (putR (w.2.2.1[k]).2.2.2.1 (f.2.2.2.2.2.2.2.2.1, f.2.2.2.2.2.2.2.2.2.1, f.2.2.2.2.2.2.2.2.2.2.1, f.2.2.2.2.2.2.2.2.2.2.2.1, ()))); refine ⟨0, setM w k (withItems w.2.2.1[k] (putR (w.2.2.1[k]).2.2.2.1 (f.2.2.2.2.2.2.2.2.1, f.2.2.2.2.2.2.2.2.2.1, f.2.2.2.2.2.2.2.2.2.2.1, f.2.2.2.2.2.2.2.2.2.2.2.1, ()))), ?_, (h.mate hk (catch_step hm hx) rfl rfl rfl).up (Nat.le_succ n)⟩; simp only [Bool.not_false, cond_true]; rw [e2]; simp only [Option.bind_some]; rw [e3]; rfl
 · have hT := hf.tok ht; simp only [Bool.not_true, cond_false]; generalize ht' : ((f.2.2.1, f.2.2.2.1, f.2.2.2.2.1, f.2.2.2.2.2.1, f.2.2.2.2.2.2.1, f.2.2.2.2.2.2.2.1, ()) : TokR) = t at hT; have hto : (f.2.2.1, f.2.2.2.1, f.2.2.2.2.1, f.2.2.2.2.2.1, f.2.2.2.2.2.2.1, f.2.2.2.2.2.2.2.1, ()) = t := ht'
   cases hh : holdB w.2.2.1[k] t
   · have e2 := (hold_no w.2.2.1[k] t (Nat.le_trans hm.small (by decide)) (Nat.le_trans hT.2.2.2.2.2.1 (by decide)) hh).2; subst hto; rw [e2]; exact ⟨1, w, rfl, h.up (Nat.le_succ n)⟩
   · unfold holdB at hh; simp only [Bool.and_eq_true, decide_eq_true_eq] at hh; obtain ⟨m', said, j, nx, H, _, e2⟩ := hold_ok w.2.2.1[k] t hm hT hh.2.2.1 hh.2.2.2.1 hh.2.2.2.2; have hsaid : ∀ x ∈ said, ItemP x := fun x hx => by
       rw [H.said] at hx; rcases List.mem_append.1 hx with hx | hx
       · exact items_mem hm.items x (give_mem hx)
       · exact numItems_ok ⟨hT.2.2.1.1, H.few.2.2⟩ hm.id H.few.2.1 hm.short x hx
     have hlen : said.length ≤ 63 := by
       rw [H.said, List.length_append, numItems_len]; have := give_len t (w.2.2.1[k]).2.2.2.1; have := H.few.1; omega
     have hs := h.said; have e3 := mate_val w (by omega) hk m'; have hW := h.mate hk H.nq H.id.1 H.id.2.1 H.id.2.2; have hl2 := newS_len f said; have e4 := said_loop (setM w k m') f said nx (by show w.2.2.2.2.2.1.length ≤ _; omega) (by omega); generalize hw2 : addS (setM w k m') f said = w2 at e4; have p1 : w2.2.2.1 = w.2.2.1.set k m' := by rw [← hw2]; rfl
     have p2 : w2.2.2.2.1 = w.2.2.2.1 := by rw [← hw2]; rfl
     have p3 : w2.2.1 = w.2.1 := by rw [← hw2]; rfl
     have hW2 : WorkQ (n + 1) c ms w2 := by
       rw [← hw2]; exact { hW.up (Nat.le_succ n) with
         said := ⟨fun x hx => by
           have hx : x ∈ w.2.2.2.2.2.1 ++ newS f said := hx; rcases List.mem_append.1 hx with hx | hx
           · exact hs.1 x hx
           · exact hsaid x (List.mem_filter.1 hx).1, by
           show (w.2.2.2.2.2.1 ++ newS f said).length ≤ _; rw [List.length_append]; omega⟩ }
     have hm5 : w2.2.2.1.length ≤ 5 := by rw [p1, List.length_set]; exact q0
     have e5 := tell_val w2 f.1 said hm5 (by rw [p2]; omega) (by omega); have htl := tellL_len w2.2.2.1 f.1 5 hm5 said; have hl6 : (w2.2.2.2.1 ++ tellL w2.2.2.1 f.1 said).length ≤ w.2.2.2.1.length + 315 := by rw [List.length_append, p2]; omega
     have e6 := token_val (setF w2 (w2.2.2.2.1 ++ tellL w2.2.2.1 f.1 said)) f.1 nx (by show w2.2.1.length ≤ _; rw [p3]; omega) (by show (w2.2.2.2.1 ++ tellL w2.2.2.1 f.1 said).length ≤ _; omega) (Nat.le_trans H.tq.2.2.2.2.2.1 (by decide)); refine ⟨0, setF (setF w2 (w2.2.2.2.1 ++ tellL w2.2.2.1 f.1 said)) ((w2.2.2.2.1 ++ tellL w2.2.2.1 f.1 said) ++ [tokFly (nextV w2.1 w2.2.1 f.1) nx]), ?_, (hW2.fly' (fun g hg => ?_) ?_)⟩
     · subst hto; rw [e2]; simp only [Option.bind_some, Bool.not_true, cond_false]; rw [e3]; simp only [Option.bind_some]; have e4' := e4; simp only [e4, outK, Option.bind_some]; rw [show f.2.1 = true from ht] at e4; rw [e4]; simp only [Option.bind_some]; rw [e5]; simp only [Option.bind_some]; rw [e6]; rfl
     · rcases List.mem_append.1 hg with hg | hg
       · rcases List.mem_append.1 hg with hg | hg
         · rw [p2] at hg; exact h.fly g hg
         · exact flyQ_tell hsaid g hg
       · rw [List.mem_singleton] at hg; subst hg; exact flyQ_tok H.tq
     · rw [List.length_append, List.length_singleton]; omega
abbrev EvtR : Type := Int × Int × Int × Int × ByteArray × Unit
structure EvtQ (ms : MemL) (e : EvtR) : Prop where
 kind : 1 ≤ e.1 ∧ e.1 ≤ 7
 id : (e.2.1, ()) ∈ ms
 at_ : 0 ≤ e.2.2.1
 say : e.1 = 1 → (1 ≤ e.2.2.2.1 ∧ e.2.2.2.1 ≤ 2) ∧ ByteArray.size e.2.2.2.2.1 ≤ 60
 no : e.1 ≠ 1 → e.2.2.2.1 = 0 ∧ e.2.2.2.2.1 = ByteArray.empty
theorem turn_ok {c : Int} {ms : MemL} (hr : RingP c ms) {e : EvtR} (he : EvtQ ms e) : spec_TurnOk c ms e.1 e.2.1 e.2.2.1 e.2.2.2.1 e.2.2.2.2.1 = some (true, ()) := by
 have hl := hr.2.1.2; unfold spec_TurnOk; simp only [(ring_ok c ms (by omega)).1, (ring_ok c ms (by omega)).2.2.2 hr, Option.bind_some, Bool.not_true, cond_false, in_eq, dec_true he.kind.1, dec_true he.kind.2, Bool.and_self, in_spec ms e.2.1 (by omega), dec_true he.id, dec_false (show ¬ e.2.2.1 < 0 by have := he.at_; omega)]
 by_cases h1 : e.1 = 1
 · obtain ⟨⟨a1, a2⟩, a3⟩ := he.say h1; rw [dec_true h1, dec_true a1, dec_true a2, dec_true (show ((ByteArray.size e.2.2.2.2.1 : Nat) : Int) ≤ 60 by omega)]; rfl
 · obtain ⟨a1, a2⟩ := he.no h1; rw [dec_false h1, dec_true a1, a2]; show some (strEq ByteArray.empty ByteArray.empty, ()) = _; rw [strEq_self]
theorem do_step {n : Nat} {c : Int} {ms : MemL} {w : WorkR} (h : WorkQ n c ms w) (hn : n ≤ 1000) {e : EvtR} (he : EvtQ ms e) : ∃ a w', spec_l11Do w.1 w.2.1 w.2.2.1 w.2.2.2.1 w.2.2.2.2.1 w.2.2.2.2.2.1 e.1 e.2.1 e.2.2.1 e.2.2.2.1 e.2.2.2.2.1 = some (a, w'.1, w'.2.1, w'.2.2.1, w'.2.2.2.1, w'.2.2.2.2.1, w'.2.2.2.2.2.1, ()) ∧ WorkQ (n + 1) c ms w' := by
 obtain ⟨q0, q1, q2⟩ := h.five; have hfew := h.few; obtain ⟨a, e1, hq⟩ := at_val w (by omega) e.2.1; have hq : ∃ k, ∃ hk : k < w.2.2.1.length, a = ((k : Nat) : Int) ∧ (w.2.2.1[k]).1 = e.2.1 := by
   rcases hq with ⟨_, g⟩ | g
   · obtain ⟨j, hj, ej⟩ := List.mem_iff_getElem.1 he.id; have hj2 : j < w.2.2.1.length := by rw [h.len]; exact hj
     exact absurd ((h.ids j hj2 hj).trans (congrArg Prod.fst ej)) (g j hj2)
   · exact g
 obtain ⟨k, hk, rfl, hid⟩ := hq; obtain ⟨hm, hc, hr⟩ := h.matq _ (List.getElem_mem hk); unfold spec_l11Do; simp only [e1, Option.bind_some]
 by_cases k1 : e.1 = 1
 · obtain ⟨a1, a2⟩ := he.say k1; have e2 := (say_same w.2.2.1[k] e.2.2.2.1 e.2.2.2.2.1 (Nat.le_trans hm.small (by decide))).1; simp only [dec_true k1, cond_true, zero_le_nat, toNat_nat, List.getElem?_eq_getElem hk, Option.bind_some]; rw [e2]; simp only [Option.bind_some]
   cases hb : (sayR w.2.2.1[k] e.2.2.2.1 e.2.2.2.2.1).2
   · exact ⟨1, w, rfl, h.up (Nat.le_succ n)⟩
   · have hmay : mayB w.2.2.1[k] e.2.2.2.1 e.2.2.2.2.1 = true := by
       unfold sayR at hb
       cases hm2 : mayB w.2.2.1[k] e.2.2.2.1 e.2.2.2.2.1
       · rw [hm2] at hb; cases hb
       · rfl
     have hs : (sayR w.2.2.1[k] e.2.2.2.1 e.2.2.2.2.1).1 = saidR w.2.2.1[k] e.2.2.2.1 e.2.2.2.2.1 := by unfold sayR; rw [hmay]; rfl
     unfold mayB at hmay; simp only [Bool.and_eq_true, decide_eq_true_eq] at hmay; have e3 := mate_val w (by omega) hk (saidR w.2.2.1[k] e.2.2.2.1 e.2.2.2.2.1); rw [hs]; simp only [Bool.not_true, cond_false]; rw [e3]; exact ⟨0, _, rfl, (h.mate hk (said_ok hm a1 a2 hmay.2.2.2) rfl rfl rfl).up (Nat.le_succ n)⟩
 by_cases k7 : e.1 = 7
 · obtain ⟨w', e2, hw⟩ := hear_step h (by omega) hk; simp only [dec_false k1, dec_true k7, cond_true, cond_false]; rw [e2]; exact ⟨0, w', rfl, hw⟩
 by_cases k6 : e.1 = 6
 · obtain ⟨b, w', e2, hw⟩ := again_step h hn hk; simp only [dec_false k1, dec_false k7, dec_true k6, cond_true, cond_false]; rw [e2]; exact ⟨b, w', rfl, hw⟩
 simp only [dec_false k1, dec_false k7, dec_false k6, cond_false]
 by_cases h0 : w.2.2.2.1.length = 0
 · rw [dec_true (show ((List.length w.2.2.2.1 : Nat) : Int) = 0 by omega)]; exact ⟨1, w, rfl, h.up (Nat.le_succ n)⟩
 obtain ⟨i, hi⟩ := Int.eq_ofNat_of_zero_le he.at_; have hlt : i % w.2.2.2.1.length < w.2.2.2.1.length := Nat.mod_lt _ (by omega); generalize hj : i % w.2.2.2.1.length = j at hlt; have et : Int.tmod e.2.2.1 ((List.length w.2.2.2.1 : Nat) : Int) = ((j : Nat) : Int) := by rw [hi, ← hj]; exact tmod_nat' _ _
 have hF := h.fly _ (List.getElem_mem hlt); simp only [dec_false (show ¬ ((List.length w.2.2.2.1 : Nat) : Int) = 0 by omega), cond_false, et, zero_le_nat, toNat_nat, List.getElem?_eq_getElem hlt, Option.bind_some, cond_true]
 by_cases k5 : e.1 = 5
 · simp only [dec_true k5, cond_true, ble_true (show (0 + w.2.2.2.1.length) * 120 ≤ lim by unfold lim; omega), List.nil_append, ble_true (show (w.2.2.2.1.length + 1) * 120 ≤ lim by unfold lim; omega)]; refine ⟨0, setF w (w.2.2.2.1 ++ [w.2.2.2.1[j]]), rfl, (h.up (Nat.le_succ n)).fly' (fun f hf => ?_) ?_⟩
   · rcases List.mem_append.1 hf with hf | hf
     · exact h.fly f hf
     · rw [List.mem_singleton] at hf; subst hf; exact hF
   · rw [List.length_append, List.length_singleton]; omega
 have hl1 : (List.take j w.2.2.2.1).length ≤ w.2.2.2.1.length := by rw [List.length_take]; omega
 have hl2 : (List.drop (j + 1) w.2.2.2.1).length ≤ w.2.2.2.1.length := by rw [List.length_drop]; omega
 have hW : WorkQ n c ms (setF w (List.take j w.2.2.2.1 ++ List.drop (j + 1) w.2.2.2.1)) := h.fly' (fun f hf => by
   rcases List.mem_append.1 hf with hf | hf
   · exact h.fly f (List.mem_of_mem_take hf)
   · exact h.fly f (List.mem_of_mem_drop hf)) (by rw [List.length_append, List.length_take, List.length_drop]; omega)
 obtain ⟨b, w', e2, hw⟩ := come_step hW hn hF; have e2 : spec_l11Come w.1 w.2.1 w.2.2.1 (List.take j w.2.2.2.1 ++ List.drop (j + 1) w.2.2.2.1) w.2.2.2.2.1 w.2.2.2.2.2.1 (w.2.2.2.1[j]).1 (w.2.2.2.1[j]).2.1 (w.2.2.2.1[j]).2.2.1 (w.2.2.2.1[j]).2.2.2.1 (w.2.2.2.1[j]).2.2.2.2.1 (w.2.2.2.1[j]).2.2.2.2.2.1 (w.2.2.2.1[j]).2.2.2.2.2.2.1 (w.2.2.2.1[j]).2.2.2.2.2.2.2.1 (w.2.2.2.1[j]).2.2.2.2.2.2.2.2.1 (w.2.2.2.1[j]).2.2.2.2.2.2.2.2.2.1 (w.2.2.2.1[j]).2.2.2.2.2.2.2.2.2.2.1 (w.2.2.2.1[j]).2.2.2.2.2.2.2.2.2.2.2.1 = some (b, w'.1, w'.2.1, w'.2.2.1, w'.2.2.2.1, w'.2.2.2.2.1, w'.2.2.2.2.2.1, ()) := e2; simp only [dec_false k5, cond_false, dec_true (show ((j : Nat) : Int) ≤ ((List.length w.2.2.2.1 : Nat) : Int) by omega), cond_true, List.drop_zero, List.nil_append, succ_wrap (show j < 4611686018427387904 by omega), zero_le_nat, toNat_nat,
   dec_true (show (((j + 1 : Nat)) : Int) ≤ ((List.length w.2.2.2.1 : Nat) : Int) by omega), ble_true (show (0 + (List.take j w.2.2.2.1).length) * 120 ≤ lim by unfold lim; omega), ble_true (show ((List.take j w.2.2.2.1).length + (List.drop (j + 1) w.2.2.2.1).length) * 120 ≤ lim by unfold lim; omega), both_self]
 by_cases k4 : e.1 = 4
 · rw [dec_true k4]; exact ⟨0, _, rfl, hW.up (Nat.le_succ n)⟩
 · rw [dec_false k4, e2]; exact ⟨b, w', rfl, hw⟩
end Go.TM
