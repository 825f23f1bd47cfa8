/- A ring's life, as the reference plays it: its events. -/
import Derived.Test.YtiljcjnnhkidbaaDPHold
namespace Go.TM
open Go
theorem JR {n : Nat} {c : Int} {ms : dy} {w : cG} (h : eK n c ms w) (hn : n ≤ 1000000) {k : Nat} (hk : k < w.2.2.1.length) : ∃ w', lh w.1 w.2.1 w.2.2.1 w.2.2.2.1 w.2.2.2.2.1 w.2.2.2.2.2.1 ((k : Nat) : Int) = some (w'.1, w'.2.1, w'.2.2.1, w'.2.2.2.1, w'.2.2.2.2.1, w'.2.2.2.2.2.1, ()) ∧ eK (n + 1) c ms w' ∧ DW ms w w' := by
 obtain ⟨q0, q1, q2⟩ := h.HH; have hm := (h.B6 _ (List.getElem_mem hk)).1; have hl := h.len; have hh := h.heard; have q8 : k < w.2.2.2.2.1.length := by omega
 obtain ⟨j, m', e, _, p2, p3, p4, _⟩ := DR hm; have ha := (uj (w.2.2.1[k]).2.2.2.1 (Nat.le_trans (cA _ hm.items).1 (by decide))).2.2.1; have hi := (cA _ hm.items).1; have hg := hm.heard; have hj : j ≤ 60 := by omega
 have hx := h.list _ (List.getElem_mem q8); refine ⟨abd (xQ w k m') (w.2.2.2.2.1.set k ((w.2.2.2.2.1[k]).1 ++ fF (w.2.2.1[k]).2.2.2.1 (w.2.2.1[k]).2.2.2.2.2.2.2.2.2.1 j, ())), ?_, ?_, fun R S hR => ?_⟩
 · have h1 := xR w (by omega) hk m'; unfold lh; simp only [aq, cond_true, aC, List.getElem?_eq_getElem hk, Option.bind_some, p2, h1]; show (bif Nat.ble ((0 + w.2.2.2.2.1.length) * 24) lim then _ else none) = _; simp only [xQ, aH (show (0 + w.2.2.2.2.1.length) * 24 ≤ lim by unfold lim; omega), cond_true, List.nil_append, my q8, List.getElem?_eq_getElem q8, Option.bind_some, aH (show (0 + (w.2.2.2.2.1[k]).1.length) * 40 ≤ lim by unfold lim; omega), sG, aH (show ((w.2.2.2.2.1[k]).1.length + j) * 40 ≤ lim by unfold lim; omega)]; rfl
 · have h2 := h.pW hk p3 (by rw [e]; rfl) (by rw [e]; rfl) (by rw [e]; rfl); have h3 := h2.up (show n ≤ n + 1 by omega); exact { h3 with
     heard := by show (w.2.2.2.2.1.set k _).length = _; rw [List.length_set]; exact hh
     list := fun x vt => by
       have vt : x ∈ w.2.2.2.2.1.set k _ := vt; rcases List.mem_or_eq_of_mem_set vt with vt | rfl
       · have := h.list x vt; omega
       · show ((w.2.2.2.2.1[k]).1 ++ fF _ _ j).length ≤ _; rw [List.length_append, sG]; omega }
 · have h4 := hR.M3 hk ((hR.pW k hk).same (m' := m') (by rw [e]; rfl) (by rw [e]; rfl) (by rw [e]; rfl)); exact ⟨R, S, { zx := h4.zx, pW := h4.pW, said := h4.said }⟩
theorem HJ {n : Nat} {c : Int} {ms : dy} {w : cG} (h : eK n c ms w) (hn : n ≤ 1000) {k : Nat} (hk : k < w.2.2.1.length) : ∃ a w', iI w.1 w.2.1 w.2.2.1 w.2.2.2.1 w.2.2.2.2.1 w.2.2.2.2.2.1 ((k : Nat) : Int) = some (a, w'.1, w'.2.1, w'.2.2.1, w'.2.2.2.1, w'.2.2.2.2.1, w'.2.2.2.2.2.1, ()) ∧ eK (n + 1) c ms w' ∧ DW ms w w' := by
 obtain ⟨q0, q1, q2⟩ := h.HH; have hm := (h.B6 _ (List.getElem_mem hk)).1; have hi := (cA _ hm.items).1; have hf := h.FE; have hl : (w.2.2.1[k]).2.2.2.2.2.2.2.2.2.2.2.2.2.2.2.1.length ≤ 20 := by
   rcases hm.last with q | q
   · rw [show (w.2.2.1[k]).2.2.2.2.2.2.2.2.2.2.2.2.2.2.2.1 = [] from q.2.2.2.2.2]; exact Nat.zero_le _
   · exact q.2.2.2.2.2.1
 rw [JM w hk q0 (by omega) (by omega) (by omega) (by omega)]
 cases hb : pG (mQ w.2.2.1[k])
 · have ht : Bp (mQ w.2.2.1[k]) := by
     rcases hm.last with q | q
     · have := (ui (mQ w.2.2.1[k])).2.2.2 q; rw [hb] at this; cases this
     · exact q
   refine ⟨0, uo w w.2.2.1[k], rfl, (h.up (Nat.le_succ n)).DV (fun f hf => ?_) ?_, fun R S hR => ⟨R, S, JO h hR hk fun q => by rw [(ui (mQ w.2.2.1[k])).2.2.2 q] at hb; cases hb⟩⟩
   · rcases List.mem_append.1 hf with hf | hf
     · rcases List.mem_append.1 hf with hf | hf
       · exact h.zx f hf
       · rw [List.mem_singleton] at hf; subst hf; exact Bz ht
     · exact CW (fun x hx => yr hm.items x (List.mem_filter.1 hx).1) f hf
   · have h1 := uN w.2.2.1 (w.2.2.1[k]).1 5 q0 (MZ w.2.2.1[k]); have h2 : (MZ w.2.2.1[k]).length ≤ 60 := Nat.le_trans (List.length_filter_le _ _) hi; rw [List.length_append, List.length_append, List.length_singleton]; omega
 · exact ⟨1, w, rfl, h.up (Nat.le_succ n), fun R S hR => ⟨R, S, hR⟩⟩
def BA (f : sH) (l : aM) : aM := l.filter fun x => decide (f.2.2.2.2.1 < x.1)
def lz (w : cG) (f : sH) (l : aM) : cG := W9 w (w.2.2.2.2.2.1 ++ BA f l)
theorem FJ (f : sH) (l : aM) : (BA f l).length ≤ l.length := List.length_filter_le _ _
theorem JS (w : cG) (f : sH) (l : aM) (t : kt) (h1 : w.2.2.2.2.2.1.length ≤ 1048576) (h2 : l.length ≤ 1048576) : aE de (w.1, w.2.1, w.2.2.1, w.2.2.2.1, w.2.2.2.2.1, w.2.2.2.2.2.1, f.1, f.2.1, f.2.2.1, f.2.2.2.1, f.2.2.2.2.1, f.2.2.2.2.2.1, f.2.2.2.2.2.2.1, f.2.2.2.2.2.2.2.1, f.2.2.2.2.2.2.2.2.1, f.2.2.2.2.2.2.2.2.2.1, f.2.2.2.2.2.2.2.2.2.2.1, f.2.2.2.2.2.2.2.2.2.2.2.1, l, t.1, t.2.1, t.2.2.1, t.2.2.2.1, t.2.2.2.2.1, t.2.2.2.2.2.1, (0 : Int), ()) = some (.inl ((lz w f l).1, (lz w f l).2.1, (lz w f l).2.2.1, (lz w f l).2.2.2.1, (lz w f l).2.2.2.2.1, (lz w f l).2.2.2.2.2.1, f.1, f.2.1, f.2.2.1, f.2.2.2.1, f.2.2.2.2.1, f.2.2.2.2.2.1, f.2.2.2.2.2.2.1, f.2.2.2.2.2.2.2.1, f.2.2.2.2.2.2.2.2.1, f.2.2.2.2.2.2.2.2.2.1, f.2.2.2.2.2.2.2.2.2.2.1, f.2.2.2.2.2.2.2.2.2.2.2.1, l, t.1, t.2.1, t.2.2.1, t.2.2.2.1, t.2.2.2.2.1, t.2.2.2.2.2.1, ())) := by
 have l1 := ee (round := de) (e := .inl ((lz w f l).1, (lz w f l).2.1, (lz w f l).2.2.1, (lz w f l).2.2.2.1, (lz w f l).2.2.2.2.1, (lz w f l).2.2.2.2.2.1, f.1, f.2.1, f.2.2.1, f.2.2.2.1, f.2.2.2.2.1, f.2.2.2.2.2.1, f.2.2.2.2.2.2.1, f.2.2.2.2.2.2.2.1, f.2.2.2.2.2.2.2.2.1, f.2.2.2.2.2.2.2.2.2.1, f.2.2.2.2.2.2.2.2.2.2.1, f.2.2.2.2.2.2.2.2.2.2.2.1, l, t.1, t.2.1, t.2.2.1, t.2.2.2.1, t.2.2.2.2.1, t.2.2.2.2.2.1, ())) l.length (fun k => ((lz w f (l.take k)).1, (lz w f (l.take k)).2.1, (lz w f (l.take k)).2.2.1, (lz w f (l.take k)).2.2.2.1, (lz w f (l.take k)).2.2.2.2.1, (lz w f (l.take k)).2.2.2.2.2.1, f.1, f.2.1, f.2.2.1, f.2.2.2.1, f.2.2.2.2.1, f.2.2.2.2.2.1, f.2.2.2.2.2.2.1, f.2.2.2.2.2.2.2.1, f.2.2.2.2.2.2.2.2.1, f.2.2.2.2.2.2.2.2.2.1, f.2.2.2.2.2.2.2.2.2.2.1, f.2.2.2.2.2.2.2.2.2.2.2.1, l, t.1, t.2.1, t.2.2.1, t.2.2.2.1, t.2.2.2.2.1, t.2.2.2.2.2.1, ((k : Nat) : Int), ())) (by
   simp only [de, iA, aF, cond_false, List.take_length]) (fun k hk => by
   have hl := FJ f (l.take k); rw [List.length_take] at hl; have Ng : Nat.ble ((0 + (w.2.2.2.2.2.1 ++ BA f (l.take k)).length) * 40) lim = true := aH (by rw [List.length_append]; unfold lim; omega); have Gl : Nat.ble (((w.2.2.2.2.2.1 ++ BA f (l.take k)).length + 1) * 40) lim = true := aH (by rw [List.length_append]; unfold lim; omega); have e : BA f (l.take (k + 1)) = BA f (l.take k) ++ (if decide (f.2.2.2.2.1 < (l[k]).1) = true then [l[k]] else []) := by
     unfold BA; rw [List.take_succ_eq_append_getElem hk, List.filter_append, List.filter_cons, List.filter_nil]
   simp only [lz, W9, e, de, iA, az hk, my hk, aq, cond_true, aC, List.getElem?_eq_getElem hk, Option.bind_some, aJ (show k < 4611686018427387904 by omega), Ng, Gl, List.nil_append, dk]
   by_cases e : f.2.2.2.2.1 < (l[k]).1
   · rw [ah e, if_pos rfl, ← List.append_assoc]; rfl
   · rw [ai e, if_neg (by decide)]; simp only [cond_false]; rw [List.append_nil])
 have l1 : aE de ((lz w f (l.take 0)).1, (lz w f (l.take 0)).2.1, (lz w f (l.take 0)).2.2.1, (lz w f (l.take 0)).2.2.2.1, (lz w f (l.take 0)).2.2.2.2.1, (lz w f (l.take 0)).2.2.2.2.2.1, f.1, f.2.1, f.2.2.1, f.2.2.2.1, f.2.2.2.2.1, f.2.2.2.2.2.1, f.2.2.2.2.2.2.1, f.2.2.2.2.2.2.2.1, f.2.2.2.2.2.2.2.2.1, f.2.2.2.2.2.2.2.2.2.1, f.2.2.2.2.2.2.2.2.2.2.1, f.2.2.2.2.2.2.2.2.2.2.2.1, l, t.1, t.2.1, t.2.2.1, t.2.2.2.1, t.2.2.2.2.1, t.2.2.2.2.2.1, (0 : Int), ()) = _ := l1; have e0 : lz w f (l.take 0) = w := by unfold lz; rw [show BA f (l.take 0) = [] from rfl, List.append_nil]; rfl
 rwa [e0] at l1
theorem M5 {R : Nat} {S : Int} {n : Nat} {c : Int} {ms : dy} {w : cG} (h : eK n c ms w) (hR : nL R S ms w) {f : sH} (hf : B7 R S ms f) (ht : f.2.1 = true) {k : Nat} (hk : k < w.2.2.1.length) (yS : (w.2.2.1[k]).1 = f.1) {t : kt} (Sq : (f.2.2.1, f.2.2.2.1, f.2.2.2.2.1, f.2.2.2.2.2.1, f.2.2.2.2.2.2.1, f.2.2.2.2.2.2.2.1, ()) = t)
   {m' : ew} {said : aM} {j : Nat} {nx : kt} (H : W2 w.2.2.1[k] t m' said j nx) (hr : (w.2.2.1[k]).2.2.2.2.2.2.1 < t.2.1) {w2 : cG} (MU : lz (xQ w k m') f said = w2) :
   nL (R + 1) (S + ((j : Nat) : Int)) ms (oq (oq w2 (w2.2.2.2.1 ++ gJ w2.2.2.1 f.1 said)) ((w2.2.2.2.1 ++ gJ w2.2.2.1 f.1 said) ++ [ku (nQ w2.1 w2.2.1 f.1) nx])) := by
 have q8 : k < ms.length := by rw [← h.len]; exact hk
 obtain ⟨r1, r2, r3, r4⟩ := JQ h hR hf ht hk yS (by rw [← Sq] at hr; exact hr); have t1 : t.2.1 = ((R : Nat) : Int) := by rw [← Sq]; exact r3
 have t2 : t.2.2.1 = S := by rw [← Sq]; exact r4
 have hs : ∀ x ∈ said, x.1 ≤ S + ((j : Nat) : Int) := fun x hx => by
   rw [H.said] at hx; rcases List.mem_append.1 hx with hx | hx
   · have := (hR.pW k hk).items x (FB hx); omega
   · obtain ⟨i, hi, rfl⟩ := xO hx; show t.2.2.1 + ((i + 1 : Nat) : Int) ≤ _; omega
 have hm : uq (R + 1) (S + ((j : Nat) : Int)) ms.length k m' := ⟨fun x hx => by
     rw [H.items] at hx; rcases Bw _ hx with hx | hx
     · obtain ⟨i, hi, rfl⟩ := xO hx; show t.2.2.1 + ((i + 1 : Nat) : Int) ≤ _; omega
     · have := (hR.pW k hk).items x hx; omega, R, by rw [H.round.1, t1], by omega, fun r _ h2 _ => by omega, .inr ⟨r1, r2, by show ((m'.2.2.2.2.2.2.2.2.2.2.1, m'.2.2.2.2.2.2.2.2.2.2.2.1, m'.2.2.2.2.2.2.2.2.2.2.2.2.1, m'.2.2.2.2.2.2.2.2.2.2.2.2.2.1, m'.2.2.2.2.2.2.2.2.2.2.2.2.2.2.1, m'.2.2.2.2.2.2.2.2.2.2.2.2.2.2.2.1, ()) : kt).2.1 = _; rw [H.last, H.next.2.1, t1]; omega, fun _ => by show ((m'.2.2.2.2.2.2.2.2.2.2.1, m'.2.2.2.2.2.2.2.2.2.2.2.1, m'.2.2.2.2.2.2.2.2.2.2.2.2.1, m'.2.2.2.2.2.2.2.2.2.2.2.2.2.1, m'.2.2.2.2.2.2.2.2.2.2.2.2.2.2.1, m'.2.2.2.2.2.2.2.2.2.2.2.2.2.2.2.1, ()) : kt).2.2.1 = _; rw [H.last, H.next.2.2, t2]⟩⟩
 have hW : nL (R + 1) (S + ((j : Nat) : Int)) ms w2 := by
   rw [← MU]; refine { zx := fun g hg => (hR.zx g hg).up, pW := fun i hi => ?_, said := fun x hx => ?_ }
   · have hi : i < (w.2.2.1.set k m').length := hi; show uq _ _ ms.length i (w.2.2.1.set k m')[i]; rw [List.getElem_set]; rw [List.length_set] at hi
     split
     · rename_i e; subst e; exact hm
     · rename_i e; have hM := hR.pW i hi; obtain ⟨q, q1, q2, q3, q4⟩ := hM.last; refine ⟨fun x hx => by have := hM.items x hx; omega, q, q1, by omega, fun r a b g => ?_, ?_⟩
       · by_cases e2 : r < R
         · exact q3 r a e2 g
         · have : r = R := by omega
           subst this; exact absurd (r2.symm.trans g) e
       · rcases q4 with q4 | ⟨g1, g2, g3, g4⟩
         · exact .inl q4
         · exact .inr ⟨g1, g2, g3, fun e => by omega⟩
   · have hx : x ∈ w.2.2.2.2.2.1 ++ BA f said := hx; rcases List.mem_append.1 hx with hx | hx
     · have := hR.said x hx; omega
     · exact hs x (List.mem_filter.1 hx).1
 refine hW.DV fun g hg => ?_
 rcases List.mem_append.1 hg with hg | hg
 · rcases List.mem_append.1 hg with hg | hg
   · exact hW.zx g hg
   · exact PS hs g hg
 · rw [List.mem_singleton] at hg; subst hg; have e1 : w2.1 = c := by rw [← MU]; exact h.self.1
   have e2 : w2.2.1 = ms := by rw [← MU]; exact h.self.2
   rw [e1, e2, ← yS, h.ids k hk q8]; exact Xa h.ring q8 r1 r2 (Nat.le_refl _) (by rw [H.next.2.1, t1]; omega) (fun _ => by rw [H.next.2.2, t2])
theorem JT {n : Nat} {c : Int} {ms : dy} {w : cG} (h : eK n c ms w) (hn : n ≤ 1000) {f : sH} (hf : M0 f) : ∃ a w', dL w.1 w.2.1 w.2.2.1 w.2.2.2.1 w.2.2.2.2.1 w.2.2.2.2.2.1 f.1 f.2.1 f.2.2.1 f.2.2.2.1 f.2.2.2.2.1 f.2.2.2.2.2.1 f.2.2.2.2.2.2.1 f.2.2.2.2.2.2.2.1 f.2.2.2.2.2.2.2.2.1 f.2.2.2.2.2.2.2.2.2.1 f.2.2.2.2.2.2.2.2.2.2.1 f.2.2.2.2.2.2.2.2.2.2.2.1 = some (a, w'.1, w'.2.1, w'.2.2.1, w'.2.2.2.1, w'.2.2.2.2.1, w'.2.2.2.2.2.1, ()) ∧ eK (n + 1) c ms w' ∧ ∀ R S, nL R S ms w → B7 R S ms f → ∃ R' S', nL R' S' ms w' := by
 obtain ⟨q0, q1, q2⟩ := h.HH; have abe := h.FE; obtain ⟨a, e1, hq⟩ := HF w (by omega) f.1; unfold dL; simp only [e1, Option.bind_some]; rcases hq with ⟨rfl, _⟩ | ⟨k, hk, rfl, yS⟩
 · exact ⟨1, w, rfl, h.up (Nat.le_succ n), fun R S hR _ => ⟨R, S, hR⟩⟩
 obtain ⟨hm, hc, hr⟩ := h.B6 _ (List.getElem_mem hk); have hi := (cA _ hm.items).1; simp only [ai (show ¬ ((k : Nat) : Int) < 0 by omega), cond_false, aq, cond_true, aC, List.getElem?_eq_getElem hk, Option.bind_some]
 cases ht : f.2.1
 · have hx := hf.item ht; have e2 := (Hw w.2.2.1[k] (f.2.2.2.2.2.2.2.2.1, f.2.2.2.2.2.2.2.2.2.1, f.2.2.2.2.2.2.2.2.2.2.1, f.2.2.2.2.2.2.2.2.2.2.2.1, ()) (Nat.le_trans hm.small (by decide))).1; rw [JN hm hx] at e2; have e3 := xR w (by omega) hk (oG w.2.2.1[k] (kP (w.2.2.1[k]).2.2.2.1 (f.2.2.2.2.2.2.2.2.1, f.2.2.2.2.2.2.2.2.2.1, f.2.2.2.2.2.2.2.2.2.2.1, f.2.2.2.2.2.2.2.2.2.2.2.1, ()))); refine ⟨0, xQ w k (oG w.2.2.1[k] (kP (w.2.2.1[k]).2.2.2.1 (f.2.2.2.2.2.2.2.2.1, f.2.2.2.2.2.2.2.2.2.1, f.2.2.2.2.2.2.2.2.2.2.1, f.2.2.2.2.2.2.2.2.2.2.2.1, ()))), ?_, (h.pW hk (HI hm hx) rfl rfl rfl).up (Nat.le_succ n), fun R S hR hN => ⟨R, S, hR.M3 hk (JP (hR.pW k hk) (hN.item ht))⟩⟩; simp only [Bool.not_false, cond_true]; rw [e2]; simp only [Option.bind_some]; rw [e3]; rfl
 · have hT := hf.tok ht; simp only [Bool.not_true, cond_false]; generalize ht' : ((f.2.2.1, f.2.2.2.1, f.2.2.2.2.1, f.2.2.2.2.2.1, f.2.2.2.2.2.2.1, f.2.2.2.2.2.2.2.1, ()) : kt) = t at hT; have Sq : (f.2.2.1, f.2.2.2.1, f.2.2.2.2.1, f.2.2.2.2.2.1, f.2.2.2.2.2.2.1, f.2.2.2.2.2.2.2.1, ()) = t := ht'
   cases hh : Iw w.2.2.1[k] t
   · have e2 := (Ot w.2.2.1[k] t (Nat.le_trans hm.small (by decide)) (Nat.le_trans hT.2.2.2.2.2.1 (by decide)) hh).2; subst Sq; rw [e2]; exact ⟨1, w, rfl, h.up (Nat.le_succ n), fun R S hR _ => ⟨R, S, hR⟩⟩
   · unfold Iw at hh; simp only [Bool.and_eq_true, decide_eq_true_eq] at hh; obtain ⟨m', said, j, nx, H, _, e2⟩ := On w.2.2.1[k] t hm hT hh.2.2.1 hh.2.2.2.1 hh.2.2.2.2; have PT : ∀ x ∈ said, jX x := fun x hx => by
       rw [H.said] at hx; rcases List.mem_append.1 hx with hx | hx
       · exact yr hm.items x (FB hx)
       · exact zn ⟨hT.2.2.1.1, H.FE.2.2⟩ hm.id H.FE.2.1 hm.short x hx
     have hlen : said.length ≤ 63 := by
       rw [H.said, List.length_append, og]; have := FD t (w.2.2.1[k]).2.2.2.1; have := H.FE.1; omega
     have hs := h.said; have e3 := xR w (by omega) hk m'; have hW := h.pW hk H.nq H.id.1 H.id.2.1 H.id.2.2; have Qo := FJ f said; have e4 := JS (xQ w k m') f said nx (by show w.2.2.2.2.2.1.length ≤ _; omega) (by omega); generalize MU : lz (xQ w k m') f said = w2 at e4; have p1 : w2.2.2.1 = w.2.2.1.set k m' := by rw [← MU]; rfl
     have p2 : w2.2.2.2.1 = w.2.2.2.1 := by rw [← MU]; rfl
     have p3 : w2.2.1 = w.2.1 := by rw [← MU]; rfl
     have hW2 : eK (n + 1) c ms w2 := by
       rw [← MU]; exact { hW.up (Nat.le_succ n) with
         said := ⟨fun x hx => by
           have hx : x ∈ w.2.2.2.2.2.1 ++ BA f said := hx; rcases List.mem_append.1 hx with hx | hx
           · exact hs.1 x hx
           · exact PT x (List.mem_filter.1 hx).1, by
           show (w.2.2.2.2.2.1 ++ BA f said).length ≤ _; rw [List.length_append]; omega⟩ }
     have hm5 : w2.2.2.1.length ≤ 5 := by rw [p1, List.length_set]; exact q0
     have e5 := FH w2 f.1 said hm5 (by rw [p2]; omega) (by omega); have Wx := uN w2.2.2.1 f.1 5 hm5 said; have hl6 : (w2.2.2.2.1 ++ gJ w2.2.2.1 f.1 said).length ≤ w.2.2.2.1.length + 315 := by rw [List.length_append, p2]; omega
     have e6 := CU (oq w2 (w2.2.2.2.1 ++ gJ w2.2.2.1 f.1 said)) f.1 nx (by show w2.2.1.length ≤ _; rw [p3]; omega) (by show (w2.2.2.2.1 ++ gJ w2.2.2.1 f.1 said).length ≤ _; omega) (Nat.le_trans H.tq.2.2.2.2.2.1 (by decide)); refine ⟨0, oq (oq w2 (w2.2.2.2.1 ++ gJ w2.2.2.1 f.1 said)) ((w2.2.2.2.1 ++ gJ w2.2.2.1 f.1 said) ++ [ku (nQ w2.1 w2.2.1 f.1) nx]), ?_, (hW2.DV (fun g hg => ?_) ?_), fun R S hR hN => ⟨R + 1, _, M5 h hR hN ht hk yS Sq H hh.2.2.2.1 MU⟩⟩
     · subst Sq; rw [e2]; simp only [Option.bind_some, Bool.not_true, cond_false]; rw [e3]; simp only [Option.bind_some]; have e4' := e4; simp only [e4, cj, Option.bind_some]; rw [show f.2.1 = true from ht] at e4; rw [e4]; simp only [Option.bind_some]; rw [e5]; simp only [Option.bind_some]; rw [e6]; rfl
     · rcases List.mem_append.1 hg with hg | hg
       · rcases List.mem_append.1 hg with hg | hg
         · rw [p2] at hg; exact h.zx g hg
         · exact CW PT g hg
       · rw [List.mem_singleton] at hg; subst hg; exact Bz H.tq
     · rw [List.length_append, List.length_singleton]; omega
abbrev DX : Type := Int × Int × Int × Int × ByteArray × Unit
structure FK (ms : dy) (e : DX) : Prop where
 kind : 1 ≤ e.1 ∧ e.1 ≤ 7
 id : (e.2.1, ()) ∈ ms
 at_ : 0 ≤ e.2.2.1
 say : e.1 = 1 → (1 ≤ e.2.2.2.1 ∧ e.2.2.2.1 ≤ 2) ∧ ByteArray.size e.2.2.2.2.1 ≤ 60
 no : e.1 ≠ 1 → e.2.2.2.1 = 0 ∧ e.2.2.2.2.1 = ByteArray.empty
theorem jZ {c : Int} {ms : dy} (hr : pF c ms) {e : DX} (he : FK ms e) : qd c ms e.1 e.2.1 e.2.2.1 e.2.2.2.1 e.2.2.2.2.1 = some (true, ()) := by
 have hl := hr.2.1.2; unfold qd; simp only [(qg c ms (by omega)).1, (qg c ms (by omega)).2.2.2 hr, Option.bind_some, Bool.not_true, cond_false, mO, ah he.kind.1, ah he.kind.2, Bool.and_self, DI ms e.2.1 (by omega), ah he.id, ai (show ¬ e.2.2.1 < 0 by have := he.at_; omega)]
 by_cases h1 : e.1 = 1
 · obtain ⟨⟨a1, a2⟩, a3⟩ := he.say h1; rw [ah h1, ah a1, ah a2, ah (show ((ByteArray.size e.2.2.2.2.1 : Nat) : Int) ≤ 60 by omega)]; rfl
 · obtain ⟨a1, a2⟩ := he.no h1; rw [ai h1, ah a1, a2]; show some (oH ByteArray.empty ByteArray.empty, ()) = _; rw [AS]
theorem Iz {n : Nat} {c : Int} {ms : dy} {w : cG} (h : eK n c ms w) (hn : n ≤ 1000) {e : DX} (he : FK ms e) : ∃ a w', jl w.1 w.2.1 w.2.2.1 w.2.2.2.1 w.2.2.2.2.1 w.2.2.2.2.2.1 e.1 e.2.1 e.2.2.1 e.2.2.2.1 e.2.2.2.2.1 = some (a, w'.1, w'.2.1, w'.2.2.1, w'.2.2.2.1, w'.2.2.2.2.1, w'.2.2.2.2.2.1, ()) ∧ eK (n + 1) c ms w' ∧ DW ms w w' := by
 obtain ⟨q0, q1, q2⟩ := h.HH; have abe := h.FE; obtain ⟨a, e1, hq⟩ := HF w (by omega) e.2.1; have hq : ∃ k, ∃ hk : k < w.2.2.1.length, a = ((k : Nat) : Int) ∧ (w.2.2.1[k]).1 = e.2.1 := by
   rcases hq with ⟨_, g⟩ | g
   · obtain ⟨j, hj, ej⟩ := List.mem_iff_getElem.1 he.id; have Lg : j < w.2.2.1.length := by rw [h.len]; exact hj
     exact absurd ((h.ids j Lg hj).trans (congrArg Prod.fst ej)) (g j Lg)
   · exact g
 obtain ⟨k, hk, rfl, yS⟩ := hq; obtain ⟨hm, hc, hr⟩ := h.B6 _ (List.getElem_mem hk); unfold jl; simp only [e1, Option.bind_some]
 by_cases k1 : e.1 = 1
 · obtain ⟨a1, a2⟩ := he.say k1; have e2 := (MW w.2.2.1[k] e.2.2.2.1 e.2.2.2.2.1 (Nat.le_trans hm.small (by decide))).1; simp only [ah k1, cond_true, aq, aC, List.getElem?_eq_getElem hk, Option.bind_some]; rw [e2]; simp only [Option.bind_some]
   cases hb : (ij w.2.2.1[k] e.2.2.2.1 e.2.2.2.2.1).2
   · exact ⟨1, w, rfl, h.up (Nat.le_succ n), fun R S hR => ⟨R, S, hR⟩⟩
   · have Ox : MV w.2.2.1[k] e.2.2.2.1 e.2.2.2.2.1 = true := by
       unfold ij at hb
       cases Xp : MV w.2.2.1[k] e.2.2.2.1 e.2.2.2.2.1
       · rw [Xp] at hb; cases hb
       · rfl
     have hs : (ij w.2.2.1[k] e.2.2.2.1 e.2.2.2.2.1).1 = Ix w.2.2.1[k] e.2.2.2.1 e.2.2.2.2.1 := by unfold ij; rw [Ox]; rfl
     unfold MV at Ox; simp only [Bool.and_eq_true, decide_eq_true_eq] at Ox; have e3 := xR w (by omega) hk (Ix w.2.2.1[k] e.2.2.2.1 e.2.2.2.2.1); rw [hs]; simp only [Bool.not_true, cond_false]; rw [e3]; exact ⟨0, _, rfl, (h.pW hk (Ou hm a1 a2 Ox.2.2.2) rfl rfl rfl).up (Nat.le_succ n), fun R S hR => ⟨R, S, hR.M3 hk ((hR.pW k hk).same rfl rfl rfl)⟩⟩
 by_cases k7 : e.1 = 7
 · obtain ⟨w', e2, hw⟩ := JR h (by omega) hk; simp only [ai k1, ah k7, cond_true, cond_false]; rw [e2]; exact ⟨0, w', rfl, hw⟩
 by_cases k6 : e.1 = 6
 · obtain ⟨b, w', e2, hw⟩ := HJ h hn hk; simp only [ai k1, ai k7, ah k6, cond_true, cond_false]; rw [e2]; exact ⟨b, w', rfl, hw⟩
 simp only [ai k1, ai k7, ai k6, cond_false]
 by_cases h0 : w.2.2.2.1.length = 0
 · rw [ah (show ((List.length w.2.2.2.1 : Nat) : Int) = 0 by omega)]; exact ⟨1, w, rfl, h.up (Nat.le_succ n), fun R S hR => ⟨R, S, hR⟩⟩
 obtain ⟨i, hi⟩ := Int.eq_ofNat_of_zero_le he.at_; have bP : i % w.2.2.2.1.length < w.2.2.2.1.length := Nat.mod_lt _ (by omega); generalize hj : i % w.2.2.2.1.length = j at bP; have et : Int.tmod e.2.2.1 ((List.length w.2.2.2.1 : Nat) : Int) = ((j : Nat) : Int) := by rw [hi, ← hj]; exact yu _ _
 have hF := h.zx _ (List.getElem_mem bP); simp only [ai (show ¬ ((List.length w.2.2.2.1 : Nat) : Int) = 0 by omega), cond_false, et, aq, aC, List.getElem?_eq_getElem bP, Option.bind_some, cond_true]
 by_cases k5 : e.1 = 5
 · simp only [ah k5, cond_true, aH (show (0 + w.2.2.2.1.length) * 120 ≤ lim by unfold lim; omega), List.nil_append, aH (show (w.2.2.2.1.length + 1) * 120 ≤ lim by unfold lim; omega)]; refine ⟨0, oq w (w.2.2.2.1 ++ [w.2.2.2.1[j]]), rfl, (h.up (Nat.le_succ n)).DV (fun f hf => ?_) ?_, fun R S hR => ⟨R, S, hR.DV fun f hf => ?_⟩⟩
   · rcases List.mem_append.1 hf with hf | hf
     · exact h.zx f hf
     · rw [List.mem_singleton] at hf; subst hf; exact hF
   · rw [List.length_append, List.length_singleton]; omega
   · rcases List.mem_append.1 hf with hf | hf
     · exact hR.zx f hf
     · rw [List.mem_singleton] at hf; subst hf; exact hR.zx _ (List.getElem_mem bP)
 have Nf : (List.take j w.2.2.2.1).length ≤ w.2.2.2.1.length := by rw [List.length_take]; omega
 have Qo : (List.drop (j + 1) w.2.2.2.1).length ≤ w.2.2.2.1.length := by rw [List.length_drop]; omega
 have hW : eK n c ms (oq w (List.take j w.2.2.2.1 ++ List.drop (j + 1) w.2.2.2.1)) := h.DV (fun f hf => by
   rcases List.mem_append.1 hf with hf | hf
   · exact h.zx f (List.mem_of_mem_take hf)
   · exact h.zx f (List.mem_of_mem_drop hf)) (by rw [List.length_append, List.length_take, List.length_drop]; omega)
 have Xb : ∀ R S, nL R S ms w → nL R S ms (oq w (List.take j w.2.2.2.1 ++ List.drop (j + 1) w.2.2.2.1)) := fun R S hR => hR.DV fun f hf => by
   rcases List.mem_append.1 hf with hf | hf
   · exact hR.zx f (List.mem_of_mem_take hf)
   · exact hR.zx f (List.mem_of_mem_drop hf)
 obtain ⟨b, w', e2, hw, yC⟩ := JT hW hn hF; have e2 : dL w.1 w.2.1 w.2.2.1 (List.take j w.2.2.2.1 ++ List.drop (j + 1) w.2.2.2.1) w.2.2.2.2.1 w.2.2.2.2.2.1 (w.2.2.2.1[j]).1 (w.2.2.2.1[j]).2.1 (w.2.2.2.1[j]).2.2.1 (w.2.2.2.1[j]).2.2.2.1 (w.2.2.2.1[j]).2.2.2.2.1 (w.2.2.2.1[j]).2.2.2.2.2.1 (w.2.2.2.1[j]).2.2.2.2.2.2.1 (w.2.2.2.1[j]).2.2.2.2.2.2.2.1 (w.2.2.2.1[j]).2.2.2.2.2.2.2.2.1 (w.2.2.2.1[j]).2.2.2.2.2.2.2.2.2.1 (w.2.2.2.1[j]).2.2.2.2.2.2.2.2.2.2.1 (w.2.2.2.1[j]).2.2.2.2.2.2.2.2.2.2.2.1 = some (b, w'.1, w'.2.1, w'.2.2.1, w'.2.2.2.1, w'.2.2.2.2.1, w'.2.2.2.2.2.1, ()) := e2; simp only [ai k5, cond_false, ah (show ((j : Nat) : Int) ≤ ((List.length w.2.2.2.1 : Nat) : Int) by omega), cond_true, List.drop_zero, List.nil_append, aJ (show j < 4611686018427387904 by omega), aq, aC,
   ah (show (((j + 1 : Nat)) : Int) ≤ ((List.length w.2.2.2.1 : Nat) : Int) by omega), aH (show (0 + (List.take j w.2.2.2.1).length) * 120 ≤ lim by unfold lim; omega), aH (show ((List.take j w.2.2.2.1).length + (List.drop (j + 1) w.2.2.2.1).length) * 120 ≤ lim by unfold lim; omega), dk]
 by_cases k4 : e.1 = 4
 · rw [ah k4]; exact ⟨0, _, rfl, hW.up (Nat.le_succ n), fun R S hR => ⟨R, S, Xb R S hR⟩⟩
 · rw [ai k4, e2]; exact ⟨b, w', rfl, hw, fun R S hR => yC R S (Xb R S hR) (hR.zx _ (List.getElem_mem bP))⟩
end Go.TM
