/- A ring's life, as the reference plays it: its events. -/
import Derived.Test.YtlgnmloddedbaaaGreatBPHold
set_option linter.unusedSimpArgs false
set_option linter.unusedVariables false
namespace Go.TM
open Go
theorem Mp {n : Nat} {c : Int} {ms : cP} {w : bj} (h : ea n c ms w) (hn : n ≤ 1000000) {k : Nat} (hk : k < w.2.2.1.length) : ∃ w', iW w.1 w.2.1 w.2.2.1 w.2.2.2.1 w.2.2.2.2.1 w.2.2.2.2.2.1 ((k : Nat) : Int) = some (w'.1, w'.2.1, w'.2.2.1, w'.2.2.2.1, w'.2.2.2.2.1, w'.2.2.2.2.2.1, ()) ∧ ea (n + 1) c ms w' ∧ FR ms w w' := by
 obtain ⟨q0, q1, q2⟩ := h.A4; have hm := (h.m8 _ (List.getElem_mem hk)).1; have hl := h.len; have hh := h.heard; have mL : k < w.2.2.2.2.1.length := by omega
 obtain ⟨j, m', e, _, p2, p3, p4, _⟩ := KG hm; have ha := (xH (w.2.2.1[k]).2.2.2.1 (Nat.le_trans (cf _ hm.items).1 (by decide))).2.2.1; have hi := (cf _ hm.items).1; have hg := hm.heard; have hj : j ≤ 60 := by omega
 have hx := h.list _ (List.getElem_mem mL); refine ⟨VF (nN w k m') (w.2.2.2.2.1.set k ((w.2.2.2.2.1[k]).1 ++ iM (w.2.2.1[k]).2.2.2.1 (w.2.2.1[k]).2.2.2.2.2.2.2.2.2.1 j, ())), ?_, ?_, fun R S hR => ?_⟩
 · have h1 := nO w (by omega) hk m'; unfold iW; simp only [ak, cond_true, au, List.getElem?_eq_getElem hk, Option.bind_some, p2, h1]; show (bif Nat.ble ((0 + w.2.2.2.2.1.length) * 24) lim then _ else none) = _; simp only [nN, aF (show (0 + w.2.2.2.2.1.length) * 24 ≤ lim by unfold lim; omega), cond_true, List.nil_append, fH mL, List.getElem?_eq_getElem mL, Option.bind_some, aF (show (0 + (w.2.2.2.2.1[k]).1.length) * 40 ≤ lim by unfold lim; omega), m7, aF (show ((w.2.2.2.2.1[k]).1.length + j) * 40 ≤ lim by unfold lim; omega)]; rfl
 · have h2 := h.kT hk p3 (by rw [e]; rfl) (by rw [e]; rfl) (by rw [e]; rfl); have h3 := h2.up (show n ≤ n + 1 by omega); exact { h3 with
     heard := by show (w.2.2.2.2.1.set k _).length = _; rw [List.length_set]; exact hh
     list := fun x qu => by
       have qu : x ∈ w.2.2.2.2.1.set k _ := qu; rcases List.mem_or_eq_of_mem_set qu with qu | rfl
       · have := h.list x qu; omega
       · show ((w.2.2.2.2.1[k]).1 ++ iM _ _ j).length ≤ _; rw [List.length_append, m7]; omega }
 · have h4 := hR.ED hk ((hR.kT k hk).same (m' := m') (by rw [e]; rfl) (by rw [e]; rfl) (by rw [e]; rfl)); exact ⟨R, S, { uc := h4.uc, kT := h4.kT, said := h4.said }⟩
theorem JO {n : Nat} {c : Int} {ms : cP} {w : bj} (h : ea n c ms w) (hn : n ≤ 1000) {k : Nat} (hk : k < w.2.2.1.length) : ∃ a w', ig w.1 w.2.1 w.2.2.1 w.2.2.2.1 w.2.2.2.2.1 w.2.2.2.2.2.1 ((k : Nat) : Int) = some (a, w'.1, w'.2.1, w'.2.2.1, w'.2.2.2.1, w'.2.2.2.2.1, w'.2.2.2.2.2.1, ()) ∧ ea (n + 1) c ms w' ∧ FR ms w w' := by
 obtain ⟨q0, q1, q2⟩ := h.A4; have hm := (h.m8 _ (List.getElem_mem hk)).1; have hi := (cf _ hm.items).1; have hf := h.vK; have hl : (w.2.2.1[k]).2.2.2.2.2.2.2.2.2.2.2.2.2.2.2.1.length ≤ 20 := by
   rcases hm.last with q | q
   · rw [show (w.2.2.1[k]).2.2.2.2.2.2.2.2.2.2.2.2.2.2.2.1 = [] from q.2.2.2.2.2]; exact Nat.zero_le _
   · exact q.2.2.2.2.2.1
 rw [EB w hk q0 (by omega) (by omega) (by omega) (by omega)]
 cases hb : m6 (gq w.2.2.1[k])
 · have ht : yX (gq w.2.2.1[k]) := by
     rcases hm.last with q | q
     · have := (qo (gq w.2.2.1[k])).2.2.2 q; rw [hb] at this; cases this
     · exact q
   refine ⟨0, rD w w.2.2.1[k], rfl, (h.up (Nat.le_succ n)).uj (fun f hf => ?_) ?_, fun R S hR => ⟨R, S, EE h hR hk fun q => by rw [(qo (gq w.2.2.1[k])).2.2.2 q] at hb; cases hb⟩⟩
   · rcases List.mem_append.1 hf with hf | hf
     · rcases List.mem_append.1 hf with hf | hf
       · exact h.uc f hf
       · rw [List.mem_singleton] at hf; subst hf; exact C7 ht
     · exact EC (fun x hx => zP hm.items x (List.mem_filter.1 hx).1) f hf
   · have h1 := lM w.2.2.1 (w.2.2.1[k]).1 5 q0 (DL w.2.2.1[k]); have h2 : (DL w.2.2.1[k]).length ≤ 60 := Nat.le_trans (List.length_filter_le _ _) hi; rw [List.length_append, List.length_append, List.length_singleton]; omega
 · exact ⟨1, w, rfl, h.up (Nat.le_succ n), fun R S hR => ⟨R, S, hR⟩⟩
def oH (f : lS) (l : aK) : aK := l.filter fun x => decide (f.2.2.2.2.1 < x.1)
def eB (w : bj) (f : lS) (l : aK) : bj := VG w (w.2.2.2.2.2.1 ++ oH f l)
theorem zf (f : lS) (l : aK) : (oH f l).length ≤ l.length := List.length_filter_le _ _
theorem Mq (w : bj) (f : lS) (l : aK) (t : jG) (h1 : w.2.2.2.2.2.1.length ≤ 1048576) (h2 : l.length ≤ 1048576) : aE bH (w.1, w.2.1, w.2.2.1, w.2.2.2.1, w.2.2.2.2.1, w.2.2.2.2.2.1, f.1, f.2.1, f.2.2.1, f.2.2.2.1, f.2.2.2.2.1, f.2.2.2.2.2.1, f.2.2.2.2.2.2.1, f.2.2.2.2.2.2.2.1, f.2.2.2.2.2.2.2.2.1, f.2.2.2.2.2.2.2.2.2.1, f.2.2.2.2.2.2.2.2.2.2.1, f.2.2.2.2.2.2.2.2.2.2.2.1, l, t.1, t.2.1, t.2.2.1, t.2.2.2.1, t.2.2.2.2.1, t.2.2.2.2.2.1, (0 : Int), ()) = some (.inl ((eB w f l).1, (eB w f l).2.1, (eB w f l).2.2.1, (eB w f l).2.2.2.1, (eB w f l).2.2.2.2.1, (eB w f l).2.2.2.2.2.1, f.1, f.2.1, f.2.2.1, f.2.2.2.1, f.2.2.2.2.1, f.2.2.2.2.2.1, f.2.2.2.2.2.2.1, f.2.2.2.2.2.2.2.1, f.2.2.2.2.2.2.2.2.1, f.2.2.2.2.2.2.2.2.2.1, f.2.2.2.2.2.2.2.2.2.2.1, f.2.2.2.2.2.2.2.2.2.2.2.1, l, t.1, t.2.1, t.2.2.1, t.2.2.2.1, t.2.2.2.2.1, t.2.2.2.2.2.1, ())) := by
 have l1 := cX (round := bH) (e := .inl ((eB w f l).1, (eB w f l).2.1, (eB w f l).2.2.1, (eB w f l).2.2.2.1, (eB w f l).2.2.2.2.1, (eB w f l).2.2.2.2.2.1, f.1, f.2.1, f.2.2.1, f.2.2.2.1, f.2.2.2.2.1, f.2.2.2.2.2.1, f.2.2.2.2.2.2.1, f.2.2.2.2.2.2.2.1, f.2.2.2.2.2.2.2.2.1, f.2.2.2.2.2.2.2.2.2.1, f.2.2.2.2.2.2.2.2.2.2.1, f.2.2.2.2.2.2.2.2.2.2.2.1, l, t.1, t.2.1, t.2.2.1, t.2.2.2.1, t.2.2.2.2.1, t.2.2.2.2.2.1, ())) l.length (fun k => ((eB w f (l.take k)).1, (eB w f (l.take k)).2.1, (eB w f (l.take k)).2.2.1, (eB w f (l.take k)).2.2.2.1, (eB w f (l.take k)).2.2.2.2.1, (eB w f (l.take k)).2.2.2.2.2.1, f.1, f.2.1, f.2.2.1, f.2.2.2.1, f.2.2.2.2.1, f.2.2.2.2.2.1, f.2.2.2.2.2.2.1, f.2.2.2.2.2.2.2.1, f.2.2.2.2.2.2.2.2.1, f.2.2.2.2.2.2.2.2.2.1, f.2.2.2.2.2.2.2.2.2.2.1, f.2.2.2.2.2.2.2.2.2.2.2.1, l, t.1, t.2.1, t.2.2.1, t.2.2.2.1, t.2.2.2.2.1, t.2.2.2.2.2.1, ((k : Nat) : Int), ())) (by
   simp only [bH, fA, aD, cond_false, List.take_length]) (fun k hk => by
   have hl := zf f (l.take k); rw [List.length_take] at hl; have Lj : Nat.ble ((0 + (w.2.2.2.2.2.1 ++ oH f (l.take k)).length) * 40) lim = true := aF (by rw [List.length_append]; unfold lim; omega); have F0 : Nat.ble (((w.2.2.2.2.2.1 ++ oH f (l.take k)).length + 1) * 40) lim = true := aF (by rw [List.length_append]; unfold lim; omega); have e : oH f (l.take (k + 1)) = oH f (l.take k) ++ (if decide (f.2.2.2.2.1 < (l[k]).1) = true then [l[k]] else []) := by
     unfold oH; rw [List.take_succ_eq_append_getElem hk, List.filter_append, List.filter_cons, List.filter_nil]
   simp only [eB, VG, e, bH, fA, ax hk, fH hk, ak, cond_true, au, List.getElem?_eq_getElem hk, Option.bind_some, aG (show k < 4611686018427387904 by omega), Lj, F0, List.nil_append, cC]
   by_cases e : f.2.2.2.2.1 < (l[k]).1
   · rw [af e, if_pos rfl, ← List.append_assoc]; rfl
   · rw [aj e, if_neg (by decide)]; simp only [cond_false]; rw [List.append_nil])
 have l1 : aE bH ((eB w f (l.take 0)).1, (eB w f (l.take 0)).2.1, (eB w f (l.take 0)).2.2.1, (eB w f (l.take 0)).2.2.2.1, (eB w f (l.take 0)).2.2.2.2.1, (eB w f (l.take 0)).2.2.2.2.2.1, f.1, f.2.1, f.2.2.1, f.2.2.2.1, f.2.2.2.2.1, f.2.2.2.2.2.1, f.2.2.2.2.2.2.1, f.2.2.2.2.2.2.2.1, f.2.2.2.2.2.2.2.2.1, f.2.2.2.2.2.2.2.2.2.1, f.2.2.2.2.2.2.2.2.2.2.1, f.2.2.2.2.2.2.2.2.2.2.2.1, l, t.1, t.2.1, t.2.2.1, t.2.2.2.1, t.2.2.2.2.1, t.2.2.2.2.2.1, (0 : Int), ()) = _ := l1; have e0 : eB w f (l.take 0) = w := by unfold eB; rw [show oH f (l.take 0) = [] from rfl, List.append_nil]; rfl
 rwa [e0] at l1
theorem HO {R : Nat} {S : Int} {n : Nat} {c : Int} {ms : cP} {w : bj} (h : ea n c ms w) (hR : qL R S ms w) {f : lS} (hf : C9 R S ms f) (ht : f.2.1 = true) {k : Nat} (hk : k < w.2.2.1.length) (rR : (w.2.2.1[k]).1 = f.1) {t : jG} (H0 : (f.2.2.1, f.2.2.2.1, f.2.2.2.2.1, f.2.2.2.2.2.1, f.2.2.2.2.2.2.1, f.2.2.2.2.2.2.2.1, ()) = t)
   {m' : cK} {said : aK} {j : Nat} {nx : jG} (H : Mn w.2.2.1[k] t m' said j nx) (hr : (w.2.2.1[k]).2.2.2.2.2.2.1 < t.2.1) {w2 : bj} (F4 : eB (nN w k m') f said = w2) :
   qL (R + 1) (S + ((j : Nat) : Int)) ms (gu (gu w2 (w2.2.2.2.1 ++ dg w2.2.2.1 f.1 said)) ((w2.2.2.2.1 ++ dg w2.2.2.1 f.1 said) ++ [fD (iw w2.1 w2.2.1 f.1) nx])) := by
 have mL : k < ms.length := by rw [← h.len]; exact hk
 obtain ⟨r1, r2, r3, r4⟩ := EG h hR hf ht hk rR (by rw [← H0] at hr; exact hr); have t1 : t.2.1 = ((R : Nat) : Int) := by rw [← H0]; exact r3
 have t2 : t.2.2.1 = S := by rw [← H0]; exact r4
 have hs : ∀ x ∈ said, x.1 ≤ S + ((j : Nat) : Int) := fun x hx => by
   rw [H.said] at hx; rcases List.mem_append.1 hx with hx | hx
   · have := (hR.kT k hk).items x (HI hx); omega
   · obtain ⟨i, hi, rfl⟩ := pk hx; show t.2.2.1 + ((i + 1 : Nat) : Int) ≤ _; omega
 have hm : sm (R + 1) (S + ((j : Nat) : Int)) ms.length k m' := ⟨fun x hx => by
     rw [H.items] at hx; rcases C1 _ hx with hx | hx
     · obtain ⟨i, hi, rfl⟩ := pk hx; show t.2.2.1 + ((i + 1 : Nat) : Int) ≤ _; omega
     · have := (hR.kT k hk).items x hx; omega, R, by rw [H.round.1, t1], by omega, fun r _ h2 _ => by omega, .inr ⟨r1, r2, by show ((m'.2.2.2.2.2.2.2.2.2.2.1, m'.2.2.2.2.2.2.2.2.2.2.2.1, m'.2.2.2.2.2.2.2.2.2.2.2.2.1, m'.2.2.2.2.2.2.2.2.2.2.2.2.2.1, m'.2.2.2.2.2.2.2.2.2.2.2.2.2.2.1, m'.2.2.2.2.2.2.2.2.2.2.2.2.2.2.2.1, ()) : jG).2.1 = _; rw [H.last, H.next.2.1, t1]; omega, fun _ => by show ((m'.2.2.2.2.2.2.2.2.2.2.1, m'.2.2.2.2.2.2.2.2.2.2.2.1, m'.2.2.2.2.2.2.2.2.2.2.2.2.1, m'.2.2.2.2.2.2.2.2.2.2.2.2.2.1, m'.2.2.2.2.2.2.2.2.2.2.2.2.2.2.1, m'.2.2.2.2.2.2.2.2.2.2.2.2.2.2.2.1, ()) : jG).2.2.1 = _; rw [H.last, H.next.2.2, t2]⟩⟩
 have hW : qL (R + 1) (S + ((j : Nat) : Int)) ms w2 := by
   rw [← F4]; refine { uc := fun g hg => (hR.uc g hg).up, kT := fun i hi => ?_, said := fun x hx => ?_ }
   · have hi : i < (w.2.2.1.set k m').length := hi; show sm _ _ ms.length i (w.2.2.1.set k m')[i]; rw [List.getElem_set]; rw [List.length_set] at hi
     split
     · rename_i e; subst e; exact hm
     · rename_i e; have hM := hR.kT i hi; obtain ⟨q, q1, q2, q3, q4⟩ := hM.last; refine ⟨fun x hx => by have := hM.items x hx; omega, q, q1, by omega, fun r a b g => ?_, ?_⟩
       · by_cases e2 : r < R
         · exact q3 r a e2 g
         · have : r = R := by omega
           subst this; exact absurd (r2.symm.trans g) e
       · rcases q4 with q4 | ⟨g1, g2, g3, g4⟩
         · exact .inl q4
         · exact .inr ⟨g1, g2, g3, fun e => by omega⟩
   · have hx : x ∈ w.2.2.2.2.2.1 ++ oH f said := hx; rcases List.mem_append.1 hx with hx | hx
     · have := hR.said x hx; omega
     · exact hs x (List.mem_filter.1 hx).1
 refine hW.uj fun g hg => ?_
 rcases List.mem_append.1 hg with hg | hg
 · rcases List.mem_append.1 hg with hg | hg
   · exact hW.uc g hg
   · exact RN hs g hg
 · rw [List.mem_singleton] at hg; subst hg; have e1 : w2.1 = c := by rw [← F4]; exact h.self.1
   have e2 : w2.2.1 = ms := by rw [← F4]; exact h.self.2
   rw [e1, e2, ← rR, h.ids k hk mL]; exact Zq h.ring mL r1 r2 (Nat.le_refl _) (by rw [H.next.2.1, t1]; omega) (fun _ => by rw [H.next.2.2, t2])
theorem Mr {n : Nat} {c : Int} {ms : cP} {w : bj} (h : ea n c ms w) (hn : n ≤ 1000) {f : lS} (hf : Mo f) : ∃ a w', cN w.1 w.2.1 w.2.2.1 w.2.2.2.1 w.2.2.2.2.1 w.2.2.2.2.2.1 f.1 f.2.1 f.2.2.1 f.2.2.2.1 f.2.2.2.2.1 f.2.2.2.2.2.1 f.2.2.2.2.2.2.1 f.2.2.2.2.2.2.2.1 f.2.2.2.2.2.2.2.2.1 f.2.2.2.2.2.2.2.2.2.1 f.2.2.2.2.2.2.2.2.2.2.1 f.2.2.2.2.2.2.2.2.2.2.2.1 = some (a, w'.1, w'.2.1, w'.2.2.1, w'.2.2.2.1, w'.2.2.2.2.1, w'.2.2.2.2.2.1, ()) ∧ ea (n + 1) c ms w' ∧ ∀ R S, qL R S ms w → C9 R S ms f → ∃ R' S', qL R' S' ms w' := by
 obtain ⟨q0, q1, q2⟩ := h.A4; have QK := h.vK; obtain ⟨a, e1, hq⟩ := JN w (by omega) f.1; unfold cN; simp only [e1, Option.bind_some]; rcases hq with ⟨rfl, _⟩ | ⟨k, hk, rfl, rR⟩
 · exact ⟨1, w, rfl, h.up (Nat.le_succ n), fun R S hR _ => ⟨R, S, hR⟩⟩
 obtain ⟨hm, hc, hr⟩ := h.m8 _ (List.getElem_mem hk); have hi := (cf _ hm.items).1; simp only [aj (show ¬ ((k : Nat) : Int) < 0 by omega), cond_false, ak, cond_true, au, List.getElem?_eq_getElem hk, Option.bind_some]
 cases ht : f.2.1
 · have hx := hf.item ht; have e2 := (CX w.2.2.1[k] (f.2.2.2.2.2.2.2.2.1, f.2.2.2.2.2.2.2.2.2.1, f.2.2.2.2.2.2.2.2.2.2.1, f.2.2.2.2.2.2.2.2.2.2.2.1, ()) (Nat.le_trans hm.small (by decide))).1; rw [zT hm hx] at e2; have e3 := nO w (by omega) hk (pA w.2.2.1[k] (lR (w.2.2.1[k]).2.2.2.1 (f.2.2.2.2.2.2.2.2.1, f.2.2.2.2.2.2.2.2.2.1, f.2.2.2.2.2.2.2.2.2.2.1, f.2.2.2.2.2.2.2.2.2.2.2.1, ()))); refine ⟨0, nN w k (pA w.2.2.1[k] (lR (w.2.2.1[k]).2.2.2.1 (f.2.2.2.2.2.2.2.2.1, f.2.2.2.2.2.2.2.2.2.1, f.2.2.2.2.2.2.2.2.2.2.1, f.2.2.2.2.2.2.2.2.2.2.2.1, ()))), ?_, (h.kT hk (C8 hm hx) rfl rfl rfl).up (Nat.le_succ n), fun R S hR hN => ⟨R, S, hR.ED hk (EF (hR.kT k hk) (hN.item ht))⟩⟩; simp only [Bool.not_false, cond_true]; rw [e2]; simp only [Option.bind_some]; rw [e3]; rfl
 · have hT := hf.tok ht; simp only [Bool.not_true, cond_false]; generalize ht' : ((f.2.2.1, f.2.2.2.1, f.2.2.2.2.1, f.2.2.2.2.2.1, f.2.2.2.2.2.2.1, f.2.2.2.2.2.2.2.1, ()) : jG) = t at hT; have H0 : (f.2.2.1, f.2.2.2.1, f.2.2.2.2.1, f.2.2.2.2.2.1, f.2.2.2.2.2.2.1, f.2.2.2.2.2.2.2.1, ()) = t := ht'
   cases hh : EA w.2.2.1[k] t
   · have e2 := (KD w.2.2.1[k] t (Nat.le_trans hm.small (by decide)) (Nat.le_trans hT.2.2.2.2.2.1 (by decide)) hh).2; subst H0; rw [e2]; exact ⟨1, w, rfl, h.up (Nat.le_succ n), fun R S hR _ => ⟨R, S, hR⟩⟩
   · unfold EA at hh; simp only [Bool.and_eq_true, decide_eq_true_eq] at hh; obtain ⟨m', said, j, nx, H, _, e2⟩ := KC w.2.2.1[k] t hm hT hh.2.2.1 hh.2.2.2.1 hh.2.2.2.2; have RO : ∀ x ∈ said, kS x := fun x hx => by
       rw [H.said] at hx; rcases List.mem_append.1 hx with hx | hx
       · exact zP hm.items x (HI hx)
       · exact AM ⟨hT.2.2.1.1, H.vK.2.2⟩ hm.id H.vK.2.1 hm.short x hx
     have hlen : said.length ≤ 63 := by
       rw [H.said, List.length_append, fV]; have := C2 t (w.2.2.1[k]).2.2.2.1; have := H.vK.1; omega
     have hs := h.said; have e3 := nO w (by omega) hk m'; have hW := h.kT hk H.nq H.id.1 H.id.2.1 H.id.2.2; have PS := zf f said; have e4 := Mq (nN w k m') f said nx (by show w.2.2.2.2.2.1.length ≤ _; omega) (by omega); generalize F4 : eB (nN w k m') f said = w2 at e4; have p1 : w2.2.2.1 = w.2.2.1.set k m' := by rw [← F4]; rfl
     have p2 : w2.2.2.2.1 = w.2.2.2.1 := by rw [← F4]; rfl
     have p3 : w2.2.1 = w.2.1 := by rw [← F4]; rfl
     have hW2 : ea (n + 1) c ms w2 := by
       rw [← F4]; exact { hW.up (Nat.le_succ n) with
         said := ⟨fun x hx => by
           have hx : x ∈ w.2.2.2.2.2.1 ++ oH f said := hx; rcases List.mem_append.1 hx with hx | hx
           · exact hs.1 x hx
           · exact RO x (List.mem_filter.1 hx).1, by
           show (w.2.2.2.2.2.1 ++ oH f said).length ≤ _; rw [List.length_append]; omega⟩ }
     have Zr : w2.2.2.1.length ≤ 5 := by rw [p1, List.length_set]; exact q0
     have e5 := C6 w2 f.1 said Zr (by rw [p2]; omega) (by omega); have Pu := lM w2.2.2.1 f.1 5 Zr said; have hl6 : (w2.2.2.2.1 ++ dg w2.2.2.1 f.1 said).length ≤ w.2.2.2.1.length + 315 := by rw [List.length_append, p2]; omega
     have e6 := zS (gu w2 (w2.2.2.2.1 ++ dg w2.2.2.1 f.1 said)) f.1 nx (by show w2.2.1.length ≤ _; rw [p3]; omega) (by show (w2.2.2.2.1 ++ dg w2.2.2.1 f.1 said).length ≤ _; omega) (Nat.le_trans H.tq.2.2.2.2.2.1 (by decide)); refine ⟨0, gu (gu w2 (w2.2.2.2.1 ++ dg w2.2.2.1 f.1 said)) ((w2.2.2.2.1 ++ dg w2.2.2.1 f.1 said) ++ [fD (iw w2.1 w2.2.1 f.1) nx]), ?_, (hW2.uj (fun g hg => ?_) ?_), fun R S hR hN => ⟨R + 1, _, HO h hR hN ht hk rR H0 H hh.2.2.2.1 F4⟩⟩
     · subst H0; rw [e2]; simp only [Option.bind_some, Bool.not_true, cond_false]; rw [e3]; simp only [Option.bind_some]; have e4' := e4; simp only [e4, cg, Option.bind_some]; rw [show f.2.1 = true from ht] at e4; rw [e4]; simp only [Option.bind_some]; rw [e5]; simp only [Option.bind_some]; rw [e6]; rfl
     · rcases List.mem_append.1 hg with hg | hg
       · rcases List.mem_append.1 hg with hg | hg
         · rw [p2] at hg; exact h.uc g hg
         · exact EC RO g hg
       · rw [List.mem_singleton] at hg; subst hg; exact C7 H.tq
     · rw [List.length_append, List.length_singleton]; omega
abbrev lT : Type := Int × Int × Int × Int × ByteArray × Unit
structure A5 (ms : cP) (e : lT) : Prop where
 kind : 1 ≤ e.1 ∧ e.1 ≤ 7
 id : (e.2.1, ()) ∈ ms
 at_ : 0 ≤ e.2.2.1
 VH : e.1 = 1 → (1 ≤ e.2.2.2.1 ∧ e.2.2.2.1 ≤ 2) ∧ ByteArray.size e.2.2.2.2.1 ≤ 60
 no : e.1 ≠ 1 → e.2.2.2.1 = 0 ∧ e.2.2.2.2.1 = ByteArray.empty
theorem kV {c : Int} {ms : cP} (hr : lK c ms) {e : lT} (he : A5 ms e) : vB c ms e.1 e.2.1 e.2.2.1 e.2.2.2.1 e.2.2.2.2.1 = some (true, ()) := by
 have hl := hr.2.1.2; unfold vB; simp only [(ld c ms (by omega)).1, (ld c ms (by omega)).2.2.2 hr, Option.bind_some, Bool.not_true, cond_false, nM, af he.kind.1, af he.kind.2, Bool.and_self, Bf ms e.2.1 (by omega), af he.id, aj (show ¬ e.2.2.1 < 0 by have := he.at_; omega)]
 by_cases h1 : e.1 = 1
 · obtain ⟨⟨a1, a2⟩, a3⟩ := he.VH h1; rw [af h1, af a1, af a2, af (show ((ByteArray.size e.2.2.2.2.1 : Nat) : Int) ≤ 60 by omega)]; rfl
 · obtain ⟨a1, a2⟩ := he.no h1; rw [aj h1, af a1, a2]; show some (lX ByteArray.empty ByteArray.empty, ()) = _; rw [wQ]
theorem KI {n : Nat} {c : Int} {ms : cP} {w : bj} (h : ea n c ms w) (hn : n ≤ 1000) {e : lT} (he : A5 ms e) : ∃ a w', ij w.1 w.2.1 w.2.2.1 w.2.2.2.1 w.2.2.2.2.1 w.2.2.2.2.2.1 e.1 e.2.1 e.2.2.1 e.2.2.2.1 e.2.2.2.2.1 = some (a, w'.1, w'.2.1, w'.2.2.1, w'.2.2.2.1, w'.2.2.2.2.1, w'.2.2.2.2.2.1, ()) ∧ ea (n + 1) c ms w' ∧ FR ms w w' := by
 obtain ⟨q0, q1, q2⟩ := h.A4; have QK := h.vK; obtain ⟨a, e1, hq⟩ := JN w (by omega) e.2.1; have hq : ∃ k, ∃ hk : k < w.2.2.1.length, a = ((k : Nat) : Int) ∧ (w.2.2.1[k]).1 = e.2.1 := by
   rcases hq with ⟨_, g⟩ | g
   · obtain ⟨j, hj, ej⟩ := List.mem_iff_getElem.1 he.id; have Ha : j < w.2.2.1.length := by rw [h.len]; exact hj
     exact absurd ((h.ids j Ha hj).trans (congrArg Prod.fst ej)) (g j Ha)
   · exact g
 obtain ⟨k, hk, rfl, rR⟩ := hq; obtain ⟨hm, hc, hr⟩ := h.m8 _ (List.getElem_mem hk); unfold ij; simp only [e1, Option.bind_some]
 by_cases k1 : e.1 = 1
 · obtain ⟨a1, a2⟩ := he.VH k1; have e2 := (HK w.2.2.1[k] e.2.2.2.1 e.2.2.2.2.1 (Nat.le_trans hm.small (by decide))).1; simp only [af k1, cond_true, ak, au, List.getElem?_eq_getElem hk, Option.bind_some]; rw [e2]; simp only [Option.bind_some]
   cases hb : (iq w.2.2.1[k] e.2.2.2.1 e.2.2.2.2.1).2
   · exact ⟨1, w, rfl, h.up (Nat.le_succ n), fun R S hR => ⟨R, S, hR⟩⟩
   · have FT : HJ w.2.2.1[k] e.2.2.2.1 e.2.2.2.2.1 = true := by
       unfold iq at hb
       cases VU : HJ w.2.2.1[k] e.2.2.2.1 e.2.2.2.2.1
       · rw [VU] at hb; cases hb
       · rfl
     have hs : (iq w.2.2.1[k] e.2.2.2.1 e.2.2.2.2.1).1 = zc w.2.2.1[k] e.2.2.2.1 e.2.2.2.2.1 := by unfold iq; rw [FT]; rfl
     unfold HJ at FT; simp only [Bool.and_eq_true, decide_eq_true_eq] at FT; have e3 := nO w (by omega) hk (zc w.2.2.1[k] e.2.2.2.1 e.2.2.2.2.1); rw [hs]; simp only [Bool.not_true, cond_false]; rw [e3]; exact ⟨0, _, rfl, (h.kT hk (KE hm a1 a2 FT.2.2.2) rfl rfl rfl).up (Nat.le_succ n), fun R S hR => ⟨R, S, hR.ED hk ((hR.kT k hk).same rfl rfl rfl)⟩⟩
 by_cases k7 : e.1 = 7
 · obtain ⟨w', e2, hw⟩ := Mp h (by omega) hk; simp only [aj k1, af k7, cond_true, cond_false]; rw [e2]; exact ⟨0, w', rfl, hw⟩
 by_cases k6 : e.1 = 6
 · obtain ⟨b, w', e2, hw⟩ := JO h hn hk; simp only [aj k1, aj k7, af k6, cond_true, cond_false]; rw [e2]; exact ⟨b, w', rfl, hw⟩
 simp only [aj k1, aj k7, aj k6, cond_false]
 by_cases h0 : w.2.2.2.1.length = 0
 · rw [af (show ((List.length w.2.2.2.1 : Nat) : Int) = 0 by omega)]; exact ⟨1, w, rfl, h.up (Nat.le_succ n), fun R S hR => ⟨R, S, hR⟩⟩
 obtain ⟨i, hi⟩ := Int.eq_ofNat_of_zero_le he.at_; have bX : i % w.2.2.2.1.length < w.2.2.2.1.length := Nat.mod_lt _ (by omega); generalize hj : i % w.2.2.2.1.length = j at bX; have et : Int.tmod e.2.2.1 ((List.length w.2.2.2.1 : Nat) : Int) = ((j : Nat) : Int) := by rw [hi, ← hj]; exact vZ _ _
 have hF := h.uc _ (List.getElem_mem bX); simp only [aj (show ¬ ((List.length w.2.2.2.1 : Nat) : Int) = 0 by omega), cond_false, et, ak, au, List.getElem?_eq_getElem bX, Option.bind_some, cond_true]
 by_cases k5 : e.1 = 5
 · simp only [af k5, cond_true, aF (show (0 + w.2.2.2.1.length) * 120 ≤ lim by unfold lim; omega), List.nil_append, aF (show (w.2.2.2.1.length + 1) * 120 ≤ lim by unfold lim; omega)]; refine ⟨0, gu w (w.2.2.2.1 ++ [w.2.2.2.1[j]]), rfl, (h.up (Nat.le_succ n)).uj (fun f hf => ?_) ?_, fun R S hR => ⟨R, S, hR.uj fun f hf => ?_⟩⟩
   · rcases List.mem_append.1 hf with hf | hf
     · exact h.uc f hf
     · rw [List.mem_singleton] at hf; subst hf; exact hF
   · rw [List.length_append, List.length_singleton]; omega
   · rcases List.mem_append.1 hf with hf | hf
     · exact hR.uc f hf
     · rw [List.mem_singleton] at hf; subst hf; exact hR.uc _ (List.getElem_mem bX)
 have Lf : (List.take j w.2.2.2.1).length ≤ w.2.2.2.1.length := by rw [List.length_take]; omega
 have PS : (List.drop (j + 1) w.2.2.2.1).length ≤ w.2.2.2.1.length := by rw [List.length_drop]; omega
 have hW : ea n c ms (gu w (List.take j w.2.2.2.1 ++ List.drop (j + 1) w.2.2.2.1)) := h.uj (fun f hf => by
   rcases List.mem_append.1 hf with hf | hf
   · exact h.uc f (List.mem_of_mem_take hf)
   · exact h.uc f (List.mem_of_mem_drop hf)) (by rw [List.length_append, List.length_take, List.length_drop]; omega)
 have Zs : ∀ R S, qL R S ms w → qL R S ms (gu w (List.take j w.2.2.2.1 ++ List.drop (j + 1) w.2.2.2.1)) := fun R S hR => hR.uj fun f hf => by
   rcases List.mem_append.1 hf with hf | hf
   · exact hR.uc f (List.mem_of_mem_take hf)
   · exact hR.uc f (List.mem_of_mem_drop hf)
 obtain ⟨b, w', e2, hw, AU⟩ := Mr hW hn hF; have e2 : cN w.1 w.2.1 w.2.2.1 (List.take j w.2.2.2.1 ++ List.drop (j + 1) w.2.2.2.1) w.2.2.2.2.1 w.2.2.2.2.2.1 (w.2.2.2.1[j]).1 (w.2.2.2.1[j]).2.1 (w.2.2.2.1[j]).2.2.1 (w.2.2.2.1[j]).2.2.2.1 (w.2.2.2.1[j]).2.2.2.2.1 (w.2.2.2.1[j]).2.2.2.2.2.1 (w.2.2.2.1[j]).2.2.2.2.2.2.1 (w.2.2.2.1[j]).2.2.2.2.2.2.2.1 (w.2.2.2.1[j]).2.2.2.2.2.2.2.2.1 (w.2.2.2.1[j]).2.2.2.2.2.2.2.2.2.1 (w.2.2.2.1[j]).2.2.2.2.2.2.2.2.2.2.1 (w.2.2.2.1[j]).2.2.2.2.2.2.2.2.2.2.2.1 = some (b, w'.1, w'.2.1, w'.2.2.1, w'.2.2.2.1, w'.2.2.2.2.1, w'.2.2.2.2.2.1, ()) := e2; simp only [aj k5, cond_false, af (show ((j : Nat) : Int) ≤ ((List.length w.2.2.2.1 : Nat) : Int) by omega), cond_true, List.drop_zero, List.nil_append, aG (show j < 4611686018427387904 by omega), ak, au,
   af (show (((j + 1 : Nat)) : Int) ≤ ((List.length w.2.2.2.1 : Nat) : Int) by omega), aF (show (0 + (List.take j w.2.2.2.1).length) * 120 ≤ lim by unfold lim; omega), aF (show ((List.take j w.2.2.2.1).length + (List.drop (j + 1) w.2.2.2.1).length) * 120 ≤ lim by unfold lim; omega), cC]
 by_cases k4 : e.1 = 4
 · rw [af k4]; exact ⟨0, _, rfl, hW.up (Nat.le_succ n), fun R S hR => ⟨R, S, Zs R S hR⟩⟩
 · rw [aj k4, e2]; exact ⟨b, w', rfl, hw, fun R S hR => AU R S (Zs R S hR) (hR.uc _ (List.getElem_mem bX))⟩
end Go.TM
