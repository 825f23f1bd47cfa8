/- A ring's life, as the reference plays it: its events. -/
import Derived.Test.YtiljcjnnhkidbaaGreatCPHold
namespace Go.TM
open Go
theorem KJ {n : Nat} {c : Int} {ms : dn} {w : cG} (h : eD n c ms w) (hn : n ≤ 1000000) {k : Nat} (hk : k < w.2.2.1.length) : ∃ w', lu w.1 w.2.1 w.2.2.1 w.2.2.2.1 w.2.2.2.2.1 w.2.2.2.2.2.1 ((k : Nat) : Int) = some (w'.1, w'.2.1, w'.2.2.1, w'.2.2.2.1, w'.2.2.2.2.1, w'.2.2.2.2.2.1, ()) ∧ eD (n + 1) c ms w' ∧ El ms w w' := by
 obtain ⟨q0, q1, q2⟩ := h.Il; have hm := (h.Co _ (List.getElem_mem hk)).1; have hl := h.len; have hh := h.heard; have rb : k < w.2.2.2.2.1.length := by omega
 obtain ⟨j, m', e, _, p2, p3, p4, _⟩ := Ps hm; have ha := (wO (w.2.2.1[k]).2.2.2.1 (Nat.le_trans (cf _ hm.items).1 (by decide))).2.2.1; have hi := (cf _ hm.items).1; have hg := hm.heard; have hj : j ≤ 60 := by omega
 have hx := h.list _ (List.getElem_mem rb); refine ⟨acX (xY w k m') (w.2.2.2.2.1.set k ((w.2.2.2.2.1[k]).1 ++ jz (w.2.2.1[k]).2.2.2.1 (w.2.2.1[k]).2.2.2.2.2.2.2.2.2.1 j, ())), ?_, ?_, fun R S hR => ?_⟩
 · have h1 := xZ w (by omega) hk m'; unfold lu; simp only [aq, cond_true, aA, List.getElem?_eq_getElem hk, Option.bind_some, p2, h1]; show (bif Nat.ble ((0 + w.2.2.2.2.1.length) * 24) lim then _ else none) = _; simp only [xY, aH (show (0 + w.2.2.2.2.1.length) * 24 ≤ lim by unfold lim; omega), cond_true, List.nil_append, mE rb, List.getElem?_eq_getElem rb, Option.bind_some, aH (show (0 + (w.2.2.2.2.1[k]).1.length) * 40 ≤ lim by unfold lim; omega), wP, aH (show ((w.2.2.2.2.1[k]).1.length + j) * 40 ≤ lim by unfold lim; omega)]; rfl
 · have h2 := h.pK hk p3 (by rw [e]; rfl) (by rw [e]; rfl) (by rw [e]; rfl); have h3 := h2.up (show n ≤ n + 1 by omega); exact { h3 with
     heard := by show (w.2.2.2.2.1.set k _).length = _; rw [List.length_set]; exact hh
     list := fun x ra => by
       have ra : x ∈ w.2.2.2.2.1.set k _ := ra; rcases List.mem_or_eq_of_mem_set ra with ra | rfl
       · have := h.list x ra; omega
       · show ((w.2.2.2.2.1[k]).1 ++ jz _ _ j).length ≤ _; rw [List.length_append, wP]; omega }
 · have h4 := hR.NW hk ((hR.pK k hk).same (m' := m') (by rw [e]; rfl) (by rw [e]; rfl) (by rw [e]; rfl)); exact ⟨R, S, { yD := h4.yD, pK := h4.pK, said := h4.said }⟩
theorem Io {n : Nat} {c : Int} {ms : dn} {w : cG} (h : eD n c ms w) (hn : n ≤ 1000) {k : Nat} (hk : k < w.2.2.1.length) : ∃ a w', iP w.1 w.2.1 w.2.2.1 w.2.2.2.1 w.2.2.2.2.1 w.2.2.2.2.2.1 ((k : Nat) : Int) = some (a, w'.1, w'.2.1, w'.2.2.1, w'.2.2.2.1, w'.2.2.2.2.1, w'.2.2.2.2.2.1, ()) ∧ eD (n + 1) c ms w' ∧ El ms w w' := by
 obtain ⟨q0, q1, q2⟩ := h.Il; have hm := (h.Co _ (List.getElem_mem hk)).1; have hi := (cf _ hm.items).1; have hf := h.Ef; have hl : (w.2.2.1[k]).2.2.2.2.2.2.2.2.2.2.2.2.2.2.2.1.length ≤ 20 := by
   rcases hm.last with q | q
   · rw [show (w.2.2.1[k]).2.2.2.2.2.2.2.2.2.2.2.2.2.2.2.1 = [] from q.2.2.2.2.2]; exact Nat.zero_le _
   · exact q.2.2.2.2.2.1
 rw [KE w hk q0 (by omega) (by omega) (by omega) (by omega)]
 cases hb : pH (mV w.2.2.1[k])
 · have ht : zK (mV w.2.2.1[k]) := by
     rcases hm.last with q | q
     · have := (uw (mV w.2.2.1[k])).2.2.2 q; rw [hb] at this; cases this
     · exact q
   refine ⟨0, uD w w.2.2.1[k], rfl, (h.up (Nat.le_succ n)).Ek (fun f hf => ?_) ?_, fun R S hR => ⟨R, S, KH h hR hk fun q => by rw [(uw (mV w.2.2.1[k])).2.2.2 q] at hb; cases hb⟩⟩
   · rcases List.mem_append.1 hf with hf | hf
     · rcases List.mem_append.1 hf with hf | hf
       · exact h.yD f hf
       · rw [List.mem_singleton] at hf; subst hf; exact BM ht
     · exact Df (fun x hx => yA hm.items x (List.mem_filter.1 hx).1) f hf
   · have h1 := uW w.2.2.1 (w.2.2.1[k]).1 5 q0 (NT w.2.2.1[k]); have h2 : (NT w.2.2.1[k]).length ≤ 60 := Nat.le_trans (List.length_filter_le _ _) hi; rw [List.length_append, List.length_append, List.length_singleton]; omega
 · exact ⟨1, w, rfl, h.up (Nat.le_succ n), fun R S hR => ⟨R, S, hR⟩⟩
def BN (f : sM) (l : aI) : aI := l.filter fun x => decide (f.2.2.2.2.1 < x.1)
def lH (w : cG) (f : sM) (l : aI) : cG := XU w (w.2.2.2.2.2.1 ++ BN f l)
theorem Gh (f : sM) (l : aI) : (BN f l).length ≤ l.length := List.length_filter_le _ _
theorem KK (w : cG) (f : sM) (l : aI) (t : jU) (h1 : w.2.2.2.2.2.1.length ≤ 1048576) (h2 : l.length ≤ 1048576) : aE dm (w.1, w.2.1, w.2.2.1, w.2.2.2.1, w.2.2.2.2.1, w.2.2.2.2.2.1, f.1, f.2.1, f.2.2.1, f.2.2.2.1, f.2.2.2.2.1, f.2.2.2.2.2.1, f.2.2.2.2.2.2.1, f.2.2.2.2.2.2.2.1, f.2.2.2.2.2.2.2.2.1, f.2.2.2.2.2.2.2.2.2.1, f.2.2.2.2.2.2.2.2.2.2.1, f.2.2.2.2.2.2.2.2.2.2.2.1, l, t.1, t.2.1, t.2.2.1, t.2.2.2.1, t.2.2.2.2.1, t.2.2.2.2.2.1, (0 : Int), ()) = some (.inl ((lH w f l).1, (lH w f l).2.1, (lH w f l).2.2.1, (lH w f l).2.2.2.1, (lH w f l).2.2.2.2.1, (lH w f l).2.2.2.2.2.1, f.1, f.2.1, f.2.2.1, f.2.2.2.1, f.2.2.2.2.1, f.2.2.2.2.2.1, f.2.2.2.2.2.2.1, f.2.2.2.2.2.2.2.1, f.2.2.2.2.2.2.2.2.1, f.2.2.2.2.2.2.2.2.2.1, f.2.2.2.2.2.2.2.2.2.2.1, f.2.2.2.2.2.2.2.2.2.2.2.1, l, t.1, t.2.1, t.2.2.1, t.2.2.2.1, t.2.2.2.2.1, t.2.2.2.2.2.1, ())) := by
 have l1 := ek (round := dm) (e := .inl ((lH w f l).1, (lH w f l).2.1, (lH w f l).2.2.1, (lH w f l).2.2.2.1, (lH w f l).2.2.2.2.1, (lH w f l).2.2.2.2.2.1, f.1, f.2.1, f.2.2.1, f.2.2.2.1, f.2.2.2.2.1, f.2.2.2.2.2.1, f.2.2.2.2.2.2.1, f.2.2.2.2.2.2.2.1, f.2.2.2.2.2.2.2.2.1, f.2.2.2.2.2.2.2.2.2.1, f.2.2.2.2.2.2.2.2.2.2.1, f.2.2.2.2.2.2.2.2.2.2.2.1, l, t.1, t.2.1, t.2.2.1, t.2.2.2.1, t.2.2.2.2.1, t.2.2.2.2.2.1, ())) l.length (fun k => ((lH w f (l.take k)).1, (lH w f (l.take k)).2.1, (lH w f (l.take k)).2.2.1, (lH w f (l.take k)).2.2.2.1, (lH w f (l.take k)).2.2.2.2.1, (lH w f (l.take k)).2.2.2.2.2.1, f.1, f.2.1, f.2.2.1, f.2.2.2.1, f.2.2.2.2.1, f.2.2.2.2.2.1, f.2.2.2.2.2.2.1, f.2.2.2.2.2.2.2.1, f.2.2.2.2.2.2.2.2.1, f.2.2.2.2.2.2.2.2.2.1, f.2.2.2.2.2.2.2.2.2.2.1, f.2.2.2.2.2.2.2.2.2.2.2.1, l, t.1, t.2.1, t.2.2.1, t.2.2.2.1, t.2.2.2.2.1, t.2.2.2.2.2.1, ((k : Nat) : Int), ())) (by
   simp only [dm, iH, aF, cond_false, List.take_length]) (fun k hk => by
   have hl := Gh f (l.take k); rw [List.length_take] at hl; have N7 : Nat.ble ((0 + (w.2.2.2.2.2.1 ++ BN f (l.take k)).length) * 40) lim = true := aH (by rw [List.length_append]; unfold lim; omega); have GV : Nat.ble (((w.2.2.2.2.2.1 ++ BN f (l.take k)).length + 1) * 40) lim = true := aH (by rw [List.length_append]; unfold lim; omega); have e : BN f (l.take (k + 1)) = BN f (l.take k) ++ (if decide (f.2.2.2.2.1 < (l[k]).1) = true then [l[k]] else []) := by
     unfold BN; rw [List.take_succ_eq_append_getElem hk, List.filter_append, List.filter_cons, List.filter_nil]
   simp only [lH, XU, e, dm, iH, az hk, mE hk, aq, cond_true, aA, List.getElem?_eq_getElem hk, Option.bind_some, aK (show k < 4611686018427387904 by omega), N7, GV, List.nil_append, cH]
   by_cases e : f.2.2.2.2.1 < (l[k]).1
   · rw [ah e, if_pos rfl, ← List.append_assoc]; rfl
   · rw [ai e, if_neg (by decide)]; simp only [cond_false]; rw [List.append_nil])
 have l1 : aE dm ((lH w f (l.take 0)).1, (lH w f (l.take 0)).2.1, (lH w f (l.take 0)).2.2.1, (lH w f (l.take 0)).2.2.2.1, (lH w f (l.take 0)).2.2.2.2.1, (lH w f (l.take 0)).2.2.2.2.2.1, f.1, f.2.1, f.2.2.1, f.2.2.2.1, f.2.2.2.2.1, f.2.2.2.2.2.1, f.2.2.2.2.2.2.1, f.2.2.2.2.2.2.2.1, f.2.2.2.2.2.2.2.2.1, f.2.2.2.2.2.2.2.2.2.1, f.2.2.2.2.2.2.2.2.2.2.1, f.2.2.2.2.2.2.2.2.2.2.2.1, l, t.1, t.2.1, t.2.2.1, t.2.2.2.1, t.2.2.2.2.1, t.2.2.2.2.2.1, (0 : Int), ()) = _ := l1; have e0 : lH w f (l.take 0) = w := by unfold lH; rw [show BN f (l.take 0) = [] from rfl, List.append_nil]; rfl
 rwa [e0] at l1
theorem NY {R : Nat} {S : Int} {n : Nat} {c : Int} {ms : dn} {w : cG} (h : eD n c ms w) (hR : mW R S ms w) {f : sM} (hf : Cp R S ms f) (ht : f.2.1 = true) {k : Nat} (hk : k < w.2.2.1.length) (zb : (w.2.2.1[k]).1 = f.1) {t : jU} (Pv : (f.2.2.1, f.2.2.2.1, f.2.2.2.2.1, f.2.2.2.2.2.1, f.2.2.2.2.2.2.1, f.2.2.2.2.2.2.2.1, ()) = t)
   {m' : ee} {said : aI} {j : Nat} {nx : jU} (H : Ub w.2.2.1[k] t m' said j nx) (hr : (w.2.2.1[k]).2.2.2.2.2.2.1 < t.2.1) {w2 : cG} (NO : lH (xY w k m') f said = w2) :
   mW (R + 1) (S + ((j : Nat) : Int)) ms (oz (oz w2 (w2.2.2.2.1 ++ gL w2.2.2.1 f.1 said)) ((w2.2.2.2.1 ++ gL w2.2.2.1 f.1 said) ++ [kG (nV w2.1 w2.2.1 f.1) nx])) := by
 have rb : k < ms.length := by rw [← h.len]; exact hk
 obtain ⟨r1, r2, r3, r4⟩ := Dg h hR hf ht hk zb (by rw [← Pv] at hr; exact hr); have t1 : t.2.1 = ((R : Nat) : Int) := by rw [← Pv]; exact r3
 have t2 : t.2.2.1 = S := by rw [← Pv]; exact r4
 have hs : ∀ x ∈ said, x.1 ≤ S + ((j : Nat) : Int) := fun x hx => by
   rw [H.said] at hx; rcases List.mem_append.1 hx with hx | hx
   · have := (hR.pK k hk).items x (BH hx); omega
   · obtain ⟨i, hi, rfl⟩ := sL hx; show t.2.2.1 + ((i + 1 : Nat) : Int) ≤ _; omega
 have hm : uE (R + 1) (S + ((j : Nat) : Int)) ms.length k m' := ⟨fun x hx => by
     rw [H.items] at hx; rcases BG _ hx with hx | hx
     · obtain ⟨i, hi, rfl⟩ := sL hx; show t.2.2.1 + ((i + 1 : Nat) : Int) ≤ _; omega
     · have := (hR.pK k hk).items x hx; omega, R, by rw [H.round.1, t1], by omega, fun r _ h2 _ => by omega, .inr ⟨r1, r2, by show ((m'.2.2.2.2.2.2.2.2.2.2.1, m'.2.2.2.2.2.2.2.2.2.2.2.1, m'.2.2.2.2.2.2.2.2.2.2.2.2.1, m'.2.2.2.2.2.2.2.2.2.2.2.2.2.1, m'.2.2.2.2.2.2.2.2.2.2.2.2.2.2.1, m'.2.2.2.2.2.2.2.2.2.2.2.2.2.2.2.1, ()) : jU).2.1 = _; rw [H.last, H.next.2.1, t1]; omega, fun _ => by show ((m'.2.2.2.2.2.2.2.2.2.2.1, m'.2.2.2.2.2.2.2.2.2.2.2.1, m'.2.2.2.2.2.2.2.2.2.2.2.2.1, m'.2.2.2.2.2.2.2.2.2.2.2.2.2.1, m'.2.2.2.2.2.2.2.2.2.2.2.2.2.2.1, m'.2.2.2.2.2.2.2.2.2.2.2.2.2.2.2.1, ()) : jU).2.2.1 = _; rw [H.last, H.next.2.2, t2]⟩⟩
 have hW : mW (R + 1) (S + ((j : Nat) : Int)) ms w2 := by
   rw [← NO]; refine { yD := fun g hg => (hR.yD g hg).up, pK := fun i hi => ?_, said := fun x hx => ?_ }
   · have hi : i < (w.2.2.1.set k m').length := hi; show uE _ _ ms.length i (w.2.2.1.set k m')[i]; rw [List.getElem_set]; rw [List.length_set] at hi
     split
     · rename_i e; subst e; exact hm
     · rename_i e; have hM := hR.pK i hi; obtain ⟨q, q1, q2, q3, q4⟩ := hM.last; refine ⟨fun x hx => by have := hM.items x hx; omega, q, q1, by omega, fun r a b g => ?_, ?_⟩
       · by_cases e2 : r < R
         · exact q3 r a e2 g
         · have : r = R := by omega
           subst this; exact absurd (r2.symm.trans g) e
       · rcases q4 with q4 | ⟨g1, g2, g3, g4⟩
         · exact .inl q4
         · exact .inr ⟨g1, g2, g3, fun e => by omega⟩
   · have hx : x ∈ w.2.2.2.2.2.1 ++ BN f said := hx; rcases List.mem_append.1 hx with hx | hx
     · have := hR.said x hx; omega
     · exact hs x (List.mem_filter.1 hx).1
 refine hW.Ek fun g hg => ?_
 rcases List.mem_append.1 hg with hg | hg
 · rcases List.mem_append.1 hg with hg | hg
   · exact hW.yD g hg
   · exact QM hs g hg
 · rw [List.mem_singleton] at hg; subst hg; have e1 : w2.1 = c := by rw [← NO]; exact h.self.1
   have e2 : w2.2.1 = ms := by rw [← NO]; exact h.self.2
   rw [e1, e2, ← zb, h.ids k hk rb]; exact XW h.ring rb r1 r2 (Nat.le_refl _) (by rw [H.next.2.1, t1]; omega) (fun _ => by rw [H.next.2.2, t2])
theorem KM {n : Nat} {c : Int} {ms : dn} {w : cG} (h : eD n c ms w) (hn : n ≤ 1000) {f : sM} (hf : NU f) : ∃ a w', dS w.1 w.2.1 w.2.2.1 w.2.2.2.1 w.2.2.2.2.1 w.2.2.2.2.2.1 f.1 f.2.1 f.2.2.1 f.2.2.2.1 f.2.2.2.2.1 f.2.2.2.2.2.1 f.2.2.2.2.2.2.1 f.2.2.2.2.2.2.2.1 f.2.2.2.2.2.2.2.2.1 f.2.2.2.2.2.2.2.2.2.1 f.2.2.2.2.2.2.2.2.2.2.1 f.2.2.2.2.2.2.2.2.2.2.2.1 = some (a, w'.1, w'.2.1, w'.2.2.1, w'.2.2.2.1, w'.2.2.2.2.1, w'.2.2.2.2.2.1, ()) ∧ eD (n + 1) c ms w' ∧ ∀ R S, mW R S ms w → Cp R S ms f → ∃ R' S', mW R' S' ms w' := by
 obtain ⟨q0, q1, q2⟩ := h.Il; have acY := h.Ef; obtain ⟨a, e1, hq⟩ := Ij w (by omega) f.1; unfold dS; simp only [e1, Option.bind_some]; rcases hq with ⟨rfl, _⟩ | ⟨k, hk, rfl, zb⟩
 · exact ⟨1, w, rfl, h.up (Nat.le_succ n), fun R S hR _ => ⟨R, S, hR⟩⟩
 obtain ⟨hm, hc, hr⟩ := h.Co _ (List.getElem_mem hk); have hi := (cf _ hm.items).1; simp only [ai (show ¬ ((k : Nat) : Int) < 0 by omega), cond_false, aq, cond_true, aA, List.getElem?_eq_getElem hk, Option.bind_some]
 cases ht : f.2.1
 · have hx := hf.item ht; have e2 := (H9 w.2.2.1[k] (f.2.2.2.2.2.2.2.2.1, f.2.2.2.2.2.2.2.2.2.1, f.2.2.2.2.2.2.2.2.2.2.1, f.2.2.2.2.2.2.2.2.2.2.2.1, ()) (Nat.le_trans hm.small (by decide))).1; rw [KG hm hx] at e2; have e3 := xZ w (by omega) hk (oH w.2.2.1[k] (iX (w.2.2.1[k]).2.2.2.1 (f.2.2.2.2.2.2.2.2.1, f.2.2.2.2.2.2.2.2.2.1, f.2.2.2.2.2.2.2.2.2.2.1, f.2.2.2.2.2.2.2.2.2.2.2.1, ()))); refine ⟨0, xY w k (oH w.2.2.1[k] (iX (w.2.2.1[k]).2.2.2.1 (f.2.2.2.2.2.2.2.2.1, f.2.2.2.2.2.2.2.2.2.1, f.2.2.2.2.2.2.2.2.2.2.1, f.2.2.2.2.2.2.2.2.2.2.2.1, ()))), ?_, (h.pK hk (Im hm hx) rfl rfl rfl).up (Nat.le_succ n), fun R S hR hN => ⟨R, S, hR.NW hk (KI (hR.pK k hk) (hN.item ht))⟩⟩; simp only [Bool.not_false, cond_true]; rw [e2]; simp only [Option.bind_some]; rw [e3]; rfl
 · have hT := hf.tok ht; simp only [Bool.not_true, cond_false]; generalize ht' : ((f.2.2.1, f.2.2.2.1, f.2.2.2.2.1, f.2.2.2.2.2.1, f.2.2.2.2.2.2.1, f.2.2.2.2.2.2.2.1, ()) : jU) = t at hT; have Pv : (f.2.2.1, f.2.2.2.1, f.2.2.2.2.1, f.2.2.2.2.2.1, f.2.2.2.2.2.2.1, f.2.2.2.2.2.2.2.1, ()) = t := ht'
   cases hh : zA w.2.2.1[k] t
   · have e2 := (Eg w.2.2.1[k] t (Nat.le_trans hm.small (by decide)) (Nat.le_trans hT.2.2.2.2.2.1 (by decide)) hh).2; subst Pv; rw [e2]; exact ⟨1, w, rfl, h.up (Nat.le_succ n), fun R S hR _ => ⟨R, S, hR⟩⟩
   · unfold zA at hh; simp only [Bool.and_eq_true, decide_eq_true_eq] at hh; obtain ⟨m', said, j, nx, H, _, e2⟩ := I5 w.2.2.1[k] t hm hT hh.2.2.1 hh.2.2.2.1 hh.2.2.2.2; have QN : ∀ x ∈ said, kc x := fun x hx => by
       rw [H.said] at hx; rcases List.mem_append.1 hx with hx | hx
       · exact yA hm.items x (BH hx)
       · exact zy ⟨hT.2.2.1.1, H.Ef.2.2⟩ hm.id H.Ef.2.1 hm.short x hx
     have hlen : said.length ≤ 63 := by
       rw [H.said, List.length_append, lG]; have := BI t (w.2.2.1[k]).2.2.2.1; have := H.Ef.1; omega
     have hs := h.said; have e3 := xZ w (by omega) hk m'; have hW := h.pK hk H.nq H.id.1 H.id.2.1 H.id.2.2; have Ri := Gh f said; have e4 := KK (xY w k m') f said nx (by show w.2.2.2.2.2.1.length ≤ _; omega) (by omega); generalize NO : lH (xY w k m') f said = w2 at e4; have p1 : w2.2.2.1 = w.2.2.1.set k m' := by rw [← NO]; rfl
     have p2 : w2.2.2.2.1 = w.2.2.2.1 := by rw [← NO]; rfl
     have p3 : w2.2.1 = w.2.1 := by rw [← NO]; rfl
     have hW2 : eD (n + 1) c ms w2 := by
       rw [← NO]; exact { hW.up (Nat.le_succ n) with
         said := ⟨fun x hx => by
           have hx : x ∈ w.2.2.2.2.2.1 ++ BN f said := hx; rcases List.mem_append.1 hx with hx | hx
           · exact hs.1 x hx
           · exact QN x (List.mem_filter.1 hx).1, by
           show (w.2.2.2.2.2.1 ++ BN f said).length ≤ _; rw [List.length_append]; omega⟩ }
     have hm5 : w2.2.2.1.length ≤ 5 := by rw [p1, List.length_set]; exact q0
     have e5 := Gf w2 f.1 said hm5 (by rw [p2]; omega) (by omega); have Pc := uW w2.2.2.1 f.1 5 hm5 said; have hl6 : (w2.2.2.2.1 ++ gL w2.2.2.1 f.1 said).length ≤ w.2.2.2.1.length + 315 := by rw [List.length_append, p2]; omega
     have e6 := De (oz w2 (w2.2.2.2.1 ++ gL w2.2.2.1 f.1 said)) f.1 nx (by show w2.2.1.length ≤ _; rw [p3]; omega) (by show (w2.2.2.2.1 ++ gL w2.2.2.1 f.1 said).length ≤ _; omega) (Nat.le_trans H.tq.2.2.2.2.2.1 (by decide)); refine ⟨0, oz (oz w2 (w2.2.2.2.1 ++ gL w2.2.2.1 f.1 said)) ((w2.2.2.2.1 ++ gL w2.2.2.1 f.1 said) ++ [kG (nV w2.1 w2.2.1 f.1) nx]), ?_, (hW2.Ek (fun g hg => ?_) ?_), fun R S hR hN => ⟨R + 1, _, NY h hR hN ht hk zb Pv H hh.2.2.2.1 NO⟩⟩
     · subst Pv; rw [e2]; simp only [Option.bind_some, Bool.not_true, cond_false]; rw [e3]; simp only [Option.bind_some]; have e4' := e4; simp only [e4, cq, Option.bind_some]; rw [show f.2.1 = true from ht] at e4; rw [e4]; simp only [Option.bind_some]; rw [e5]; simp only [Option.bind_some]; rw [e6]; rfl
     · rcases List.mem_append.1 hg with hg | hg
       · rcases List.mem_append.1 hg with hg | hg
         · rw [p2] at hg; exact h.yD g hg
         · exact Df QN g hg
       · rw [List.mem_singleton] at hg; subst hg; exact BM H.tq
     · rw [List.length_append, List.length_singleton]; omega
abbrev Em : Type := Int × Int × Int × Int × ByteArray × Unit
structure Gi (ms : dn) (e : Em) : Prop where
 kind : 1 ≤ e.1 ∧ e.1 ≤ 7
 id : (e.2.1, ()) ∈ ms
 at_ : 0 ≤ e.2.2.1
 say : e.1 = 1 → (1 ≤ e.2.2.2.1 ∧ e.2.2.2.1 ≤ 2) ∧ ByteArray.size e.2.2.2.2.1 ≤ 60
 no : e.1 ≠ 1 → e.2.2.2.1 = 0 ∧ e.2.2.2.2.1 = ByteArray.empty
theorem kh {c : Int} {ms : dn} (hr : pG c ms) {e : Em} (he : Gi ms e) : qd c ms e.1 e.2.1 e.2.2.1 e.2.2.2.1 e.2.2.2.2.1 = some (true, ()) := by
 have hl := hr.2.1.2; unfold qd; simp only [(qf c ms (by omega)).1, (qf c ms (by omega)).2.2.2 hr, Option.bind_some, Bool.not_true, cond_false, mS, ah he.kind.1, ah he.kind.2, Bool.and_self, D7 ms e.2.1 (by omega), ah he.id, ai (show ¬ e.2.2.1 < 0 by have := he.at_; omega)]
 by_cases h1 : e.1 = 1
 · obtain ⟨⟨a1, a2⟩, a3⟩ := he.say h1; rw [ah h1, ah a1, ah a2, ah (show ((ByteArray.size e.2.2.2.2.1 : Nat) : Int) ≤ 60 by omega)]; rfl
 · obtain ⟨a1, a2⟩ := he.no h1; rw [ai h1, ah a1, a2]; show some (mz ByteArray.empty ByteArray.empty, ()) = _; rw [vP]
theorem I8 {n : Nat} {c : Int} {ms : dn} {w : cG} (h : eD n c ms w) (hn : n ≤ 1000) {e : Em} (he : Gi ms e) : ∃ a w', jv w.1 w.2.1 w.2.2.1 w.2.2.2.1 w.2.2.2.2.1 w.2.2.2.2.2.1 e.1 e.2.1 e.2.2.1 e.2.2.2.1 e.2.2.2.2.1 = some (a, w'.1, w'.2.1, w'.2.2.1, w'.2.2.2.1, w'.2.2.2.2.1, w'.2.2.2.2.2.1, ()) ∧ eD (n + 1) c ms w' ∧ El ms w w' := by
 obtain ⟨q0, q1, q2⟩ := h.Il; have acY := h.Ef; obtain ⟨a, e1, hq⟩ := Ij w (by omega) e.2.1; have hq : ∃ k, ∃ hk : k < w.2.2.1.length, a = ((k : Nat) : Int) ∧ (w.2.2.1[k]).1 = e.2.1 := by
   rcases hq with ⟨_, g⟩ | g
   · obtain ⟨j, hj, ej⟩ := List.mem_iff_getElem.1 he.id; have L9 : j < w.2.2.1.length := by rw [h.len]; exact hj
     exact absurd ((h.ids j L9 hj).trans (congrArg Prod.fst ej)) (g j L9)
   · exact g
 obtain ⟨k, hk, rfl, zb⟩ := hq; obtain ⟨hm, hc, hr⟩ := h.Co _ (List.getElem_mem hk); unfold jv; simp only [e1, Option.bind_some]
 by_cases k1 : e.1 = 1
 · obtain ⟨a1, a2⟩ := he.say k1; have e2 := (NQ w.2.2.1[k] e.2.2.2.1 e.2.2.2.2.1 (Nat.le_trans hm.small (by decide))).1; simp only [ah k1, cond_true, aq, aA, List.getElem?_eq_getElem hk, Option.bind_some]; rw [e2]; simp only [Option.bind_some]
   cases hb : (ir w.2.2.1[k] e.2.2.2.1 e.2.2.2.2.1).2
   · exact ⟨1, w, rfl, h.up (Nat.le_succ n), fun R S hR => ⟨R, S, hR⟩⟩
   · have Pw : NP w.2.2.1[k] e.2.2.2.1 e.2.2.2.2.1 = true := by
       unfold ir at hb
       cases Ye : NP w.2.2.1[k] e.2.2.2.1 e.2.2.2.2.1
       · rw [Ye] at hb; cases hb
       · rfl
     have hs : (ir w.2.2.1[k] e.2.2.2.1 e.2.2.2.2.1).1 = I6 w.2.2.1[k] e.2.2.2.1 e.2.2.2.2.1 := by unfold ir; rw [Pw]; rfl
     unfold NP at Pw; simp only [Bool.and_eq_true, decide_eq_true_eq] at Pw; have e3 := xZ w (by omega) hk (I6 w.2.2.1[k] e.2.2.2.1 e.2.2.2.2.1); rw [hs]; simp only [Bool.not_true, cond_false]; rw [e3]; exact ⟨0, _, rfl, (h.pK hk (Pq hm a1 a2 Pw.2.2.2) rfl rfl rfl).up (Nat.le_succ n), fun R S hR => ⟨R, S, hR.NW hk ((hR.pK k hk).same rfl rfl rfl)⟩⟩
 by_cases k7 : e.1 = 7
 · obtain ⟨w', e2, hw⟩ := KJ h (by omega) hk; simp only [ai k1, ah k7, cond_true, cond_false]; rw [e2]; exact ⟨0, w', rfl, hw⟩
 by_cases k6 : e.1 = 6
 · obtain ⟨b, w', e2, hw⟩ := Io h hn hk; simp only [ai k1, ai k7, ah k6, cond_true, cond_false]; rw [e2]; exact ⟨b, w', rfl, hw⟩
 simp only [ai k1, ai k7, ai k6, cond_false]
 by_cases h0 : w.2.2.2.1.length = 0
 · rw [ah (show ((List.length w.2.2.2.1 : Nat) : Int) = 0 by omega)]; exact ⟨1, w, rfl, h.up (Nat.le_succ n), fun R S hR => ⟨R, S, hR⟩⟩
 obtain ⟨i, hi⟩ := Int.eq_ofNat_of_zero_le he.at_; have bQ : i % w.2.2.2.1.length < w.2.2.2.1.length := Nat.mod_lt _ (by omega); generalize hj : i % w.2.2.2.1.length = j at bQ; have et : Int.tmod e.2.2.1 ((List.length w.2.2.2.1 : Nat) : Int) = ((j : Nat) : Int) := by rw [hi, ← hj]; exact yC _ _
 have hF := h.yD _ (List.getElem_mem bQ); simp only [ai (show ¬ ((List.length w.2.2.2.1 : Nat) : Int) = 0 by omega), cond_false, et, aq, aA, List.getElem?_eq_getElem bQ, Option.bind_some, cond_true]
 by_cases k5 : e.1 = 5
 · simp only [ah k5, cond_true, aH (show (0 + w.2.2.2.1.length) * 120 ≤ lim by unfold lim; omega), List.nil_append, aH (show (w.2.2.2.1.length + 1) * 120 ≤ lim by unfold lim; omega)]; refine ⟨0, oz w (w.2.2.2.1 ++ [w.2.2.2.1[j]]), rfl, (h.up (Nat.le_succ n)).Ek (fun f hf => ?_) ?_, fun R S hR => ⟨R, S, hR.Ek fun f hf => ?_⟩⟩
   · rcases List.mem_append.1 hf with hf | hf
     · exact h.yD f hf
     · rw [List.mem_singleton] at hf; subst hf; exact hF
   · rw [List.length_append, List.length_singleton]; omega
   · rcases List.mem_append.1 hf with hf | hf
     · exact hR.yD f hf
     · rw [List.mem_singleton] at hf; subst hf; exact hR.yD _ (List.getElem_mem bQ)
 have N6 : (List.take j w.2.2.2.1).length ≤ w.2.2.2.1.length := by rw [List.length_take]; omega
 have Ri : (List.drop (j + 1) w.2.2.2.1).length ≤ w.2.2.2.1.length := by rw [List.length_drop]; omega
 have hW : eD n c ms (oz w (List.take j w.2.2.2.1 ++ List.drop (j + 1) w.2.2.2.1)) := h.Ek (fun f hf => by
   rcases List.mem_append.1 hf with hf | hf
   · exact h.yD f (List.mem_of_mem_take hf)
   · exact h.yD f (List.mem_of_mem_drop hf)) (by rw [List.length_append, List.length_take, List.length_drop]; omega)
 have XX : ∀ R S, mW R S ms w → mW R S ms (oz w (List.take j w.2.2.2.1 ++ List.drop (j + 1) w.2.2.2.1)) := fun R S hR => hR.Ek fun f hf => by
   rcases List.mem_append.1 hf with hf | hf
   · exact hR.yD f (List.mem_of_mem_take hf)
   · exact hR.yD f (List.mem_of_mem_drop hf)
 obtain ⟨b, w', e2, hw, yL⟩ := KM hW hn hF; have e2 : dS w.1 w.2.1 w.2.2.1 (List.take j w.2.2.2.1 ++ List.drop (j + 1) w.2.2.2.1) w.2.2.2.2.1 w.2.2.2.2.2.1 (w.2.2.2.1[j]).1 (w.2.2.2.1[j]).2.1 (w.2.2.2.1[j]).2.2.1 (w.2.2.2.1[j]).2.2.2.1 (w.2.2.2.1[j]).2.2.2.2.1 (w.2.2.2.1[j]).2.2.2.2.2.1 (w.2.2.2.1[j]).2.2.2.2.2.2.1 (w.2.2.2.1[j]).2.2.2.2.2.2.2.1 (w.2.2.2.1[j]).2.2.2.2.2.2.2.2.1 (w.2.2.2.1[j]).2.2.2.2.2.2.2.2.2.1 (w.2.2.2.1[j]).2.2.2.2.2.2.2.2.2.2.1 (w.2.2.2.1[j]).2.2.2.2.2.2.2.2.2.2.2.1 = some (b, w'.1, w'.2.1, w'.2.2.1, w'.2.2.2.1, w'.2.2.2.2.1, w'.2.2.2.2.2.1, ()) := e2; simp only [ai k5, cond_false, ah (show ((j : Nat) : Int) ≤ ((List.length w.2.2.2.1 : Nat) : Int) by omega), cond_true, List.drop_zero, List.nil_append, aK (show j < 4611686018427387904 by omega), aq, aA,
   ah (show (((j + 1 : Nat)) : Int) ≤ ((List.length w.2.2.2.1 : Nat) : Int) by omega), aH (show (0 + (List.take j w.2.2.2.1).length) * 120 ≤ lim by unfold lim; omega), aH (show ((List.take j w.2.2.2.1).length + (List.drop (j + 1) w.2.2.2.1).length) * 120 ≤ lim by unfold lim; omega), cH]
 by_cases k4 : e.1 = 4
 · rw [ah k4]; exact ⟨0, _, rfl, hW.up (Nat.le_succ n), fun R S hR => ⟨R, S, XX R S hR⟩⟩
 · rw [ai k4, e2]; exact ⟨b, w', rfl, hw, fun R S hR => yL R S (XX R S hR) (hR.yD _ (List.getElem_mem bQ))⟩
end Go.TM
