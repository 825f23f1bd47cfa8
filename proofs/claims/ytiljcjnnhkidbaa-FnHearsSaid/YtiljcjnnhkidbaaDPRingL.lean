/- A ring's life, as the reference plays it: its events. -/
import Derived.Test.YtiljcjnnhkidbaaDPHold
namespace Go.TM
open Go
theorem JZ {n : Nat} {c : Int} {ms : dA} {w : cH} (h : eN n c ms w) (hn : n ≤ 1000000) {k : Nat} (hk : k < w.2.2.1.length) : ∃ w', lq w.1 w.2.1 w.2.2.1 w.2.2.2.1 w.2.2.2.2.1 w.2.2.2.2.2.1 ((k : Nat) : Int) = some (w'.1, w'.2.1, w'.2.2.1, w'.2.2.2.1, w'.2.2.2.2.1, w'.2.2.2.2.2.1, ()) ∧ eN (n + 1) c ms w' ∧ D2 ms w w' := by
 obtain ⟨q0, q1, q2⟩ := h.HS; have hm := (h.Cb _ (List.getElem_mem hk)).1; have hl := h.len; have hh := h.heard; have qC : k < w.2.2.2.2.1.length := by omega
 obtain ⟨j, m', e, _, p2, p3, p4, _⟩ := DX hm; have ha := (uu (w.2.2.1[k]).2.2.2.1 (Nat.le_trans (cA _ hm.items).1 (by decide))).2.2.1; have hi := (cA _ hm.items).1; have hg := hm.heard; have hj : j ≤ 60 := by omega
 have hx := h.list _ (List.getElem_mem qC); refine ⟨abm (xV w k m') (w.2.2.2.2.1.set k ((w.2.2.2.2.1[k]).1 ++ fJ (w.2.2.1[k]).2.2.2.1 (w.2.2.1[k]).2.2.2.2.2.2.2.2.2.1 j, ())), ?_, ?_, fun R S hR => ?_⟩
 · have h1 := xW w (by omega) hk m'; unfold lq; simp only [aq, cond_true, aC, List.getElem?_eq_getElem hk, Option.bind_some, p2, h1]; show (bif Nat.ble ((0 + w.2.2.2.2.1.length) * 24) lim then _ else none) = _; simp only [xV, aH (show (0 + w.2.2.2.2.1.length) * 24 ≤ lim by unfold lim; omega), cond_true, List.nil_append, mD qC, List.getElem?_eq_getElem qC, Option.bind_some, aH (show (0 + (w.2.2.2.2.1[k]).1.length) * 40 ≤ lim by unfold lim; omega), sK, aH (show ((w.2.2.2.2.1[k]).1.length + j) * 40 ≤ lim by unfold lim; omega)]; rfl
 · have h2 := h.pX hk p3 (by rw [e]; rfl) (by rw [e]; rfl) (by rw [e]; rfl); have h3 := h2.up (show n ≤ n + 1 by omega); exact { h3 with
     heard := by show (w.2.2.2.2.1.set k _).length = _; rw [List.length_set]; exact hh
     list := fun x rb => by
       have rb : x ∈ w.2.2.2.2.1.set k _ := rb; rcases List.mem_or_eq_of_mem_set rb with rb | rfl
       · have := h.list x rb; omega
       · show ((w.2.2.2.2.1[k]).1 ++ fJ _ _ j).length ≤ _; rw [List.length_append, sK]; omega }
 · have h4 := hR.Nd hk ((hR.pX k hk).same (m' := m') (by rw [e]; rfl) (by rw [e]; rfl) (by rw [e]; rfl)); exact ⟨R, S, { zD := h4.zD, pX := h4.pX, said := h4.said }⟩
theorem HU {n : Nat} {c : Int} {ms : dA} {w : cH} (h : eN n c ms w) (hn : n ≤ 1000) {k : Nat} (hk : k < w.2.2.1.length) : ∃ a w', iK w.1 w.2.1 w.2.2.1 w.2.2.2.1 w.2.2.2.2.1 w.2.2.2.2.2.1 ((k : Nat) : Int) = some (a, w'.1, w'.2.1, w'.2.2.1, w'.2.2.2.1, w'.2.2.2.2.1, w'.2.2.2.2.2.1, ()) ∧ eN (n + 1) c ms w' ∧ D2 ms w w' := by
 obtain ⟨q0, q1, q2⟩ := h.HS; have hm := (h.Cb _ (List.getElem_mem hk)).1; have hi := (cA _ hm.items).1; have hf := h.FL; have hl : (w.2.2.1[k]).2.2.2.2.2.2.2.2.2.2.2.2.2.2.2.1.length ≤ 20 := by
   rcases hm.last with q | q
   · rw [show (w.2.2.1[k]).2.2.2.2.2.2.2.2.2.2.2.2.2.2.2.1 = [] from q.2.2.2.2.2]; exact Nat.zero_le _
   · exact q.2.2.2.2.2.1
 rw [JU w hk q0 (by omega) (by omega) (by omega) (by omega)]
 cases hb : pI (mV w.2.2.1[k])
 · have ht : Bu (mV w.2.2.1[k]) := by
     rcases hm.last with q | q
     · have := (ur (mV w.2.2.1[k])).2.2.2 q; rw [hb] at this; cases this
     · exact q
   refine ⟨0, uA w w.2.2.1[k], rfl, (h.up (Nat.le_succ n)).D1 (fun f hf => ?_) ?_, fun R S hR => ⟨R, S, JW h hR hk fun q => by rw [(ur (mV w.2.2.1[k])).2.2.2 q] at hb; cases hb⟩⟩
   · rcases List.mem_append.1 hf with hf | hf
     · rcases List.mem_append.1 hf with hf | hf
       · exact h.zD f hf
       · rw [List.mem_singleton] at hf; subst hf; exact BE ht
     · exact C1 (fun x hx => yw hm.items x (List.mem_filter.1 hx).1) f hf
   · have h1 := uT w.2.2.1 (w.2.2.1[k]).1 5 q0 (Na w.2.2.1[k]); have h2 : (Na w.2.2.1[k]).length ≤ 60 := Nat.le_trans (List.length_filter_le _ _) hi; rw [List.length_append, List.length_append, List.length_singleton]; omega
 · exact ⟨1, w, rfl, h.up (Nat.le_succ n), fun R S hR => ⟨R, S, hR⟩⟩
def BF (f : sL) (l : aM) : aM := l.filter fun x => decide (f.2.2.2.2.1 < x.1)
def lE (w : cH) (f : sL) (l : aM) : cH := Xj w (w.2.2.2.2.2.1 ++ BF f l)
theorem FQ (f : sL) (l : aM) : (BF f l).length ≤ l.length := List.length_filter_le _ _
theorem J0 (w : cH) (f : sL) (l : aM) (t : kz) (h1 : w.2.2.2.2.2.1.length ≤ 1048576) (h2 : l.length ≤ 1048576) : aE dh (w.1, w.2.1, w.2.2.1, w.2.2.2.1, w.2.2.2.2.1, w.2.2.2.2.2.1, f.1, f.2.1, f.2.2.1, f.2.2.2.1, f.2.2.2.2.1, f.2.2.2.2.2.1, f.2.2.2.2.2.2.1, f.2.2.2.2.2.2.2.1, f.2.2.2.2.2.2.2.2.1, f.2.2.2.2.2.2.2.2.2.1, f.2.2.2.2.2.2.2.2.2.2.1, f.2.2.2.2.2.2.2.2.2.2.2.1, l, t.1, t.2.1, t.2.2.1, t.2.2.2.1, t.2.2.2.2.1, t.2.2.2.2.2.1, (0 : Int), ()) = some (.inl ((lE w f l).1, (lE w f l).2.1, (lE w f l).2.2.1, (lE w f l).2.2.2.1, (lE w f l).2.2.2.2.1, (lE w f l).2.2.2.2.2.1, f.1, f.2.1, f.2.2.1, f.2.2.2.1, f.2.2.2.2.1, f.2.2.2.2.2.1, f.2.2.2.2.2.2.1, f.2.2.2.2.2.2.2.1, f.2.2.2.2.2.2.2.2.1, f.2.2.2.2.2.2.2.2.2.1, f.2.2.2.2.2.2.2.2.2.2.1, f.2.2.2.2.2.2.2.2.2.2.2.1, l, t.1, t.2.1, t.2.2.1, t.2.2.2.1, t.2.2.2.2.1, t.2.2.2.2.2.1, ())) := by
 have l1 := ef (round := dh) (e := .inl ((lE w f l).1, (lE w f l).2.1, (lE w f l).2.2.1, (lE w f l).2.2.2.1, (lE w f l).2.2.2.2.1, (lE w f l).2.2.2.2.2.1, f.1, f.2.1, f.2.2.1, f.2.2.2.1, f.2.2.2.2.1, f.2.2.2.2.2.1, f.2.2.2.2.2.2.1, f.2.2.2.2.2.2.2.1, f.2.2.2.2.2.2.2.2.1, f.2.2.2.2.2.2.2.2.2.1, f.2.2.2.2.2.2.2.2.2.2.1, f.2.2.2.2.2.2.2.2.2.2.2.1, l, t.1, t.2.1, t.2.2.1, t.2.2.2.1, t.2.2.2.2.1, t.2.2.2.2.2.1, ())) l.length (fun k => ((lE w f (l.take k)).1, (lE w f (l.take k)).2.1, (lE w f (l.take k)).2.2.1, (lE w f (l.take k)).2.2.2.1, (lE w f (l.take k)).2.2.2.2.1, (lE w f (l.take k)).2.2.2.2.2.1, f.1, f.2.1, f.2.2.1, f.2.2.2.1, f.2.2.2.2.1, f.2.2.2.2.2.1, f.2.2.2.2.2.2.1, f.2.2.2.2.2.2.2.1, f.2.2.2.2.2.2.2.2.1, f.2.2.2.2.2.2.2.2.2.1, f.2.2.2.2.2.2.2.2.2.2.1, f.2.2.2.2.2.2.2.2.2.2.2.1, l, t.1, t.2.1, t.2.2.1, t.2.2.2.1, t.2.2.2.2.1, t.2.2.2.2.2.1, ((k : Nat) : Int), ())) (by
   simp only [dh, iD, aF, cond_false, List.take_length]) (fun k hk => by
   have hl := FQ f (l.take k); rw [List.length_take] at hl; have Np : Nat.ble ((0 + (w.2.2.2.2.2.1 ++ BF f (l.take k)).length) * 40) lim = true := aH (by rw [List.length_append]; unfold lim; omega); have Gv : Nat.ble (((w.2.2.2.2.2.1 ++ BF f (l.take k)).length + 1) * 40) lim = true := aH (by rw [List.length_append]; unfold lim; omega); have e : BF f (l.take (k + 1)) = BF f (l.take k) ++ (if decide (f.2.2.2.2.1 < (l[k]).1) = true then [l[k]] else []) := by
     unfold BF; rw [List.take_succ_eq_append_getElem hk, List.filter_append, List.filter_cons, List.filter_nil]
   simp only [lE, Xj, e, dh, iD, az hk, mD hk, aq, cond_true, aC, List.getElem?_eq_getElem hk, Option.bind_some, aJ (show k < 4611686018427387904 by omega), Np, Gv, List.nil_append, dq]
   by_cases e : f.2.2.2.2.1 < (l[k]).1
   · rw [ah e, if_pos rfl, ← List.append_assoc]; rfl
   · rw [ai e, if_neg (by decide)]; simp only [cond_false]; rw [List.append_nil])
 have l1 : aE dh ((lE w f (l.take 0)).1, (lE w f (l.take 0)).2.1, (lE w f (l.take 0)).2.2.1, (lE w f (l.take 0)).2.2.2.1, (lE w f (l.take 0)).2.2.2.2.1, (lE w f (l.take 0)).2.2.2.2.2.1, f.1, f.2.1, f.2.2.1, f.2.2.2.1, f.2.2.2.2.1, f.2.2.2.2.2.1, f.2.2.2.2.2.2.1, f.2.2.2.2.2.2.2.1, f.2.2.2.2.2.2.2.2.1, f.2.2.2.2.2.2.2.2.2.1, f.2.2.2.2.2.2.2.2.2.2.1, f.2.2.2.2.2.2.2.2.2.2.2.1, l, t.1, t.2.1, t.2.2.1, t.2.2.2.1, t.2.2.2.2.1, t.2.2.2.2.2.1, (0 : Int), ()) = _ := l1; have e0 : lE w f (l.take 0) = w := by unfold lE; rw [show BF f (l.take 0) = [] from rfl, List.append_nil]; rfl
 rwa [e0] at l1
theorem Ng {R : Nat} {S : Int} {n : Nat} {c : Int} {ms : dA} {w : cH} (h : eN n c ms w) (hR : nQ R S ms w) {f : sL} (hf : Cc R S ms f) (ht : f.2.1 = true) {k : Nat} (hk : k < w.2.2.1.length) (yW : (w.2.2.1[k]).1 = f.1) {t : kz} (SE : (f.2.2.1, f.2.2.2.1, f.2.2.2.2.1, f.2.2.2.2.2.1, f.2.2.2.2.2.2.1, f.2.2.2.2.2.2.2.1, ()) = t)
   {m' : ey} {said : aM} {j : Nat} {nx : kz} (H : Xc w.2.2.1[k] t m' said j nx) (hr : (w.2.2.1[k]).2.2.2.2.2.2.1 < t.2.1) {w2 : cH} (M5 : lE (xV w k m') f said = w2) :
   nQ (R + 1) (S + ((j : Nat) : Int)) ms (oz (oz w2 (w2.2.2.2.1 ++ gL w2.2.2.1 f.1 said)) ((w2.2.2.2.1 ++ gL w2.2.2.1 f.1 said) ++ [kC (nV w2.1 w2.2.1 f.1) nx])) := by
 have qC : k < ms.length := by rw [← h.len]; exact hk
 obtain ⟨r1, r2, r3, r4⟩ := JY h hR hf ht hk yW (by rw [← SE] at hr; exact hr); have t1 : t.2.1 = ((R : Nat) : Int) := by rw [← SE]; exact r3
 have t2 : t.2.2.1 = S := by rw [← SE]; exact r4
 have hs : ∀ x ∈ said, x.1 ≤ S + ((j : Nat) : Int) := fun x hx => by
   rw [H.said] at hx; rcases List.mem_append.1 hx with hx | hx
   · have := (hR.pX k hk).items x (FJ hx); omega
   · obtain ⟨i, hi, rfl⟩ := xT hx; show t.2.2.1 + ((i + 1 : Nat) : Int) ≤ _; omega
 have hm : uB (R + 1) (S + ((j : Nat) : Int)) ms.length k m' := ⟨fun x hx => by
     rw [H.items] at hx; rcases BB _ hx with hx | hx
     · obtain ⟨i, hi, rfl⟩ := xT hx; show t.2.2.1 + ((i + 1 : Nat) : Int) ≤ _; omega
     · have := (hR.pX k hk).items x hx; omega, R, by rw [H.round.1, t1], by omega, fun r _ h2 _ => by omega, .inr ⟨r1, r2, by show ((m'.2.2.2.2.2.2.2.2.2.2.1, m'.2.2.2.2.2.2.2.2.2.2.2.1, m'.2.2.2.2.2.2.2.2.2.2.2.2.1, m'.2.2.2.2.2.2.2.2.2.2.2.2.2.1, m'.2.2.2.2.2.2.2.2.2.2.2.2.2.2.1, m'.2.2.2.2.2.2.2.2.2.2.2.2.2.2.2.1, ()) : kz).2.1 = _; rw [H.last, H.next.2.1, t1]; omega, fun _ => by show ((m'.2.2.2.2.2.2.2.2.2.2.1, m'.2.2.2.2.2.2.2.2.2.2.2.1, m'.2.2.2.2.2.2.2.2.2.2.2.2.1, m'.2.2.2.2.2.2.2.2.2.2.2.2.2.1, m'.2.2.2.2.2.2.2.2.2.2.2.2.2.2.1, m'.2.2.2.2.2.2.2.2.2.2.2.2.2.2.2.1, ()) : kz).2.2.1 = _; rw [H.last, H.next.2.2, t2]⟩⟩
 have hW : nQ (R + 1) (S + ((j : Nat) : Int)) ms w2 := by
   rw [← M5]; refine { zD := fun g hg => (hR.zD g hg).up, pX := fun i hi => ?_, said := fun x hx => ?_ }
   · have hi : i < (w.2.2.1.set k m').length := hi; show uB _ _ ms.length i (w.2.2.1.set k m')[i]; rw [List.getElem_set]; rw [List.length_set] at hi
     split
     · rename_i e; subst e; exact hm
     · rename_i e; have hM := hR.pX i hi; obtain ⟨q, q1, q2, q3, q4⟩ := hM.last; refine ⟨fun x hx => by have := hM.items x hx; omega, q, q1, by omega, fun r a b g => ?_, ?_⟩
       · by_cases e2 : r < R
         · exact q3 r a e2 g
         · have : r = R := by omega
           subst this; exact absurd (r2.symm.trans g) e
       · rcases q4 with q4 | ⟨g1, g2, g3, g4⟩
         · exact .inl q4
         · exact .inr ⟨g1, g2, g3, fun e => by omega⟩
   · have hx : x ∈ w.2.2.2.2.2.1 ++ BF f said := hx; rcases List.mem_append.1 hx with hx | hx
     · have := hR.said x hx; omega
     · exact hs x (List.mem_filter.1 hx).1
 refine hW.D1 fun g hg => ?_
 rcases List.mem_append.1 hg with hg | hg
 · rcases List.mem_append.1 hg with hg | hg
   · exact hW.zD g hg
   · exact P5 hs g hg
 · rw [List.mem_singleton] at hg; subst hg; have e1 : w2.1 = c := by rw [← M5]; exact h.self.1
   have e2 : w2.2.1 = ms := by rw [← M5]; exact h.self.2
   rw [e1, e2, ← yW, h.ids k hk qC]; exact Xk h.ring qC r1 r2 (Nat.le_refl _) (by rw [H.next.2.1, t1]; omega) (fun _ => by rw [H.next.2.2, t2])
theorem J1 {n : Nat} {c : Int} {ms : dA} {w : cH} (h : eN n c ms w) (hn : n ≤ 1000) {f : sL} (hf : Nb f) : ∃ a w', dO w.1 w.2.1 w.2.2.1 w.2.2.2.1 w.2.2.2.2.1 w.2.2.2.2.2.1 f.1 f.2.1 f.2.2.1 f.2.2.2.1 f.2.2.2.2.1 f.2.2.2.2.2.1 f.2.2.2.2.2.2.1 f.2.2.2.2.2.2.2.1 f.2.2.2.2.2.2.2.2.1 f.2.2.2.2.2.2.2.2.2.1 f.2.2.2.2.2.2.2.2.2.2.1 f.2.2.2.2.2.2.2.2.2.2.2.1 = some (a, w'.1, w'.2.1, w'.2.2.1, w'.2.2.2.1, w'.2.2.2.2.1, w'.2.2.2.2.2.1, ()) ∧ eN (n + 1) c ms w' ∧ ∀ R S, nQ R S ms w → Cc R S ms f → ∃ R' S', nQ R' S' ms w' := by
 obtain ⟨q0, q1, q2⟩ := h.HS; have abn := h.FL; obtain ⟨a, e1, hq⟩ := HQ w (by omega) f.1; unfold dO; simp only [e1, Option.bind_some]; rcases hq with ⟨rfl, _⟩ | ⟨k, hk, rfl, yW⟩
 · exact ⟨1, w, rfl, h.up (Nat.le_succ n), fun R S hR _ => ⟨R, S, hR⟩⟩
 obtain ⟨hm, hc, hr⟩ := h.Cb _ (List.getElem_mem hk); have hi := (cA _ hm.items).1; simp only [ai (show ¬ ((k : Nat) : Int) < 0 by omega), cond_false, aq, cond_true, aC, List.getElem?_eq_getElem hk, Option.bind_some]
 cases ht : f.2.1
 · have hx := hf.item ht; have e2 := (HI w.2.2.1[k] (f.2.2.2.2.2.2.2.2.1, f.2.2.2.2.2.2.2.2.2.1, f.2.2.2.2.2.2.2.2.2.2.1, f.2.2.2.2.2.2.2.2.2.2.2.1, ()) (Nat.le_trans hm.small (by decide))).1; rw [JV hm hx] at e2; have e3 := xW w (by omega) hk (oI w.2.2.1[k] (kT (w.2.2.1[k]).2.2.2.1 (f.2.2.2.2.2.2.2.2.1, f.2.2.2.2.2.2.2.2.2.1, f.2.2.2.2.2.2.2.2.2.2.1, f.2.2.2.2.2.2.2.2.2.2.2.1, ()))); refine ⟨0, xV w k (oI w.2.2.1[k] (kT (w.2.2.1[k]).2.2.2.1 (f.2.2.2.2.2.2.2.2.1, f.2.2.2.2.2.2.2.2.2.1, f.2.2.2.2.2.2.2.2.2.2.1, f.2.2.2.2.2.2.2.2.2.2.2.1, ()))), ?_, (h.pX hk (HT hm hx) rfl rfl rfl).up (Nat.le_succ n), fun R S hR hN => ⟨R, S, hR.Nd hk (JX (hR.pX k hk) (hN.item ht))⟩⟩; simp only [Bool.not_false, cond_true]; rw [e2]; simp only [Option.bind_some]; rw [e3]; rfl
 · have hT := hf.tok ht; simp only [Bool.not_true, cond_false]; generalize ht' : ((f.2.2.1, f.2.2.2.1, f.2.2.2.2.1, f.2.2.2.2.2.1, f.2.2.2.2.2.2.1, f.2.2.2.2.2.2.2.1, ()) : kz) = t at hT; have SE : (f.2.2.1, f.2.2.2.1, f.2.2.2.2.1, f.2.2.2.2.2.1, f.2.2.2.2.2.2.1, f.2.2.2.2.2.2.2.1, ()) = t := ht'
   cases hh : IF w.2.2.1[k] t
   · have e2 := (OE w.2.2.1[k] t (Nat.le_trans hm.small (by decide)) (Nat.le_trans hT.2.2.2.2.2.1 (by decide)) hh).2; subst SE; rw [e2]; exact ⟨1, w, rfl, h.up (Nat.le_succ n), fun R S hR _ => ⟨R, S, hR⟩⟩
   · unfold IF at hh; simp only [Bool.and_eq_true, decide_eq_true_eq] at hh; obtain ⟨m', said, j, nx, H, _, e2⟩ := OB w.2.2.1[k] t hm hT hh.2.2.1 hh.2.2.2.1 hh.2.2.2.2; have P6 : ∀ x ∈ said, j5 x := fun x hx => by
       rw [H.said] at hx; rcases List.mem_append.1 hx with hx | hx
       · exact yw hm.items x (FJ hx)
       · exact zr ⟨hT.2.2.1.1, H.FL.2.2⟩ hm.id H.FL.2.1 hm.short x hx
     have hlen : said.length ≤ 63 := by
       rw [H.said, List.length_append, ot]; have := FK t (w.2.2.1[k]).2.2.2.1; have := H.FL.1; omega
     have hs := h.said; have e3 := xW w (by omega) hk m'; have hW := h.pX hk H.nq H.id.1 H.id.2.1 H.id.2.2; have QB := FQ f said; have e4 := J0 (xV w k m') f said nx (by show w.2.2.2.2.2.1.length ≤ _; omega) (by omega); generalize M5 : lE (xV w k m') f said = w2 at e4; have p1 : w2.2.2.1 = w.2.2.1.set k m' := by rw [← M5]; rfl
     have p2 : w2.2.2.2.1 = w.2.2.2.1 := by rw [← M5]; rfl
     have p3 : w2.2.1 = w.2.1 := by rw [← M5]; rfl
     have hW2 : eN (n + 1) c ms w2 := by
       rw [← M5]; exact { hW.up (Nat.le_succ n) with
         said := ⟨fun x hx => by
           have hx : x ∈ w.2.2.2.2.2.1 ++ BF f said := hx; rcases List.mem_append.1 hx with hx | hx
           · exact hs.1 x hx
           · exact P6 x (List.mem_filter.1 hx).1, by
           show (w.2.2.2.2.2.1 ++ BF f said).length ≤ _; rw [List.length_append]; omega⟩ }
     have hm5 : w2.2.2.1.length ≤ 5 := by rw [p1, List.length_set]; exact q0
     have e5 := FO w2 f.1 said hm5 (by rw [p2]; omega) (by omega); have WI := uT w2.2.2.1 f.1 5 hm5 said; have hl6 : (w2.2.2.2.1 ++ gL w2.2.2.1 f.1 said).length ≤ w.2.2.2.1.length + 315 := by rw [List.length_append, p2]; omega
     have e6 := C0 (oz w2 (w2.2.2.2.1 ++ gL w2.2.2.1 f.1 said)) f.1 nx (by show w2.2.1.length ≤ _; rw [p3]; omega) (by show (w2.2.2.2.1 ++ gL w2.2.2.1 f.1 said).length ≤ _; omega) (Nat.le_trans H.tq.2.2.2.2.2.1 (by decide)); refine ⟨0, oz (oz w2 (w2.2.2.2.1 ++ gL w2.2.2.1 f.1 said)) ((w2.2.2.2.1 ++ gL w2.2.2.1 f.1 said) ++ [kC (nV w2.1 w2.2.1 f.1) nx]), ?_, (hW2.D1 (fun g hg => ?_) ?_), fun R S hR hN => ⟨R + 1, _, Ng h hR hN ht hk yW SE H hh.2.2.2.1 M5⟩⟩
     · subst SE; rw [e2]; simp only [Option.bind_some, Bool.not_true, cond_false]; rw [e3]; simp only [Option.bind_some]; have e4' := e4; simp only [e4, cj, Option.bind_some]; rw [show f.2.1 = true from ht] at e4; rw [e4]; simp only [Option.bind_some]; rw [e5]; simp only [Option.bind_some]; rw [e6]; rfl
     · rcases List.mem_append.1 hg with hg | hg
       · rcases List.mem_append.1 hg with hg | hg
         · rw [p2] at hg; exact h.zD g hg
         · exact C1 P6 g hg
       · rw [List.mem_singleton] at hg; subst hg; exact BE H.tq
     · rw [List.length_append, List.length_singleton]; omega
abbrev D3 : Type := Int × Int × Int × Int × ByteArray × Unit
structure FR (ms : dA) (e : D3) : Prop where
 kind : 1 ≤ e.1 ∧ e.1 ≤ 7
 id : (e.2.1, ()) ∈ ms
 at_ : 0 ≤ e.2.2.1
 say : e.1 = 1 → (1 ≤ e.2.2.2.1 ∧ e.2.2.2.1 ≤ 2) ∧ ByteArray.size e.2.2.2.2.1 ≤ 60
 no : e.1 ≠ 1 → e.2.2.2.1 = 0 ∧ e.2.2.2.2.1 = ByteArray.empty
theorem j8 {c : Int} {ms : dA} (hr : pH c ms) {e : D3} (he : FR ms e) : qe c ms e.1 e.2.1 e.2.2.1 e.2.2.2.1 e.2.2.2.2.1 = some (true, ()) := by
 have hl := hr.2.1.2; unfold qe; simp only [(qh c ms (by omega)).1, (qh c ms (by omega)).2.2.2 hr, Option.bind_some, Bool.not_true, cond_false, mT, ah he.kind.1, ah he.kind.2, Bool.and_self, DO ms e.2.1 (by omega), ah he.id, ai (show ¬ e.2.2.1 < 0 by have := he.at_; omega)]
 by_cases h1 : e.1 = 1
 · obtain ⟨⟨a1, a2⟩, a3⟩ := he.say h1; rw [ah h1, ah a1, ah a2, ah (show ((ByteArray.size e.2.2.2.2.1 : Nat) : Int) ≤ 60 by omega)]; rfl
 · obtain ⟨a1, a2⟩ := he.no h1; rw [ai h1, ah a1, a2]; show some (oJ ByteArray.empty ByteArray.empty, ()) = _; rw [AY]
theorem II {n : Nat} {c : Int} {ms : dA} {w : cH} (h : eN n c ms w) (hn : n ≤ 1000) {e : D3} (he : FR ms e) : ∃ a w', jq w.1 w.2.1 w.2.2.1 w.2.2.2.1 w.2.2.2.2.1 w.2.2.2.2.2.1 e.1 e.2.1 e.2.2.1 e.2.2.2.1 e.2.2.2.2.1 = some (a, w'.1, w'.2.1, w'.2.2.1, w'.2.2.2.1, w'.2.2.2.2.1, w'.2.2.2.2.2.1, ()) ∧ eN (n + 1) c ms w' ∧ D2 ms w w' := by
 obtain ⟨q0, q1, q2⟩ := h.HS; have abn := h.FL; obtain ⟨a, e1, hq⟩ := HQ w (by omega) e.2.1; have hq : ∃ k, ∃ hk : k < w.2.2.1.length, a = ((k : Nat) : Int) ∧ (w.2.2.1[k]).1 = e.2.1 := by
   rcases hq with ⟨_, g⟩ | g
   · obtain ⟨j, hj, ej⟩ := List.mem_iff_getElem.1 he.id; have Lq : j < w.2.2.1.length := by rw [h.len]; exact hj
     exact absurd ((h.ids j Lq hj).trans (congrArg Prod.fst ej)) (g j Lq)
   · exact g
 obtain ⟨k, hk, rfl, yW⟩ := hq; obtain ⟨hm, hc, hr⟩ := h.Cb _ (List.getElem_mem hk); unfold jq; simp only [e1, Option.bind_some]
 by_cases k1 : e.1 = 1
 · obtain ⟨a1, a2⟩ := he.say k1; have e2 := (M7 w.2.2.1[k] e.2.2.2.1 e.2.2.2.2.1 (Nat.le_trans hm.small (by decide))).1; simp only [ah k1, cond_true, aq, aC, List.getElem?_eq_getElem hk, Option.bind_some]; rw [e2]; simp only [Option.bind_some]
   cases hb : (im w.2.2.1[k] e.2.2.2.1 e.2.2.2.2.1).2
   · exact ⟨1, w, rfl, h.up (Nat.le_succ n), fun R S hR => ⟨R, S, hR⟩⟩
   · have OI : M6 w.2.2.1[k] e.2.2.2.1 e.2.2.2.2.1 = true := by
       unfold im at hb
       cases XA : M6 w.2.2.1[k] e.2.2.2.1 e.2.2.2.2.1
       · rw [XA] at hb; cases hb
       · rfl
     have hs : (im w.2.2.1[k] e.2.2.2.1 e.2.2.2.2.1).1 = IG w.2.2.1[k] e.2.2.2.1 e.2.2.2.2.1 := by unfold im; rw [OI]; rfl
     unfold M6 at OI; simp only [Bool.and_eq_true, decide_eq_true_eq] at OI; have e3 := xW w (by omega) hk (IG w.2.2.1[k] e.2.2.2.1 e.2.2.2.2.1); rw [hs]; simp only [Bool.not_true, cond_false]; rw [e3]; exact ⟨0, _, rfl, (h.pX hk (OF hm a1 a2 OI.2.2.2) rfl rfl rfl).up (Nat.le_succ n), fun R S hR => ⟨R, S, hR.Nd hk ((hR.pX k hk).same rfl rfl rfl)⟩⟩
 by_cases k7 : e.1 = 7
 · obtain ⟨w', e2, hw⟩ := JZ h (by omega) hk; simp only [ai k1, ah k7, cond_true, cond_false]; rw [e2]; exact ⟨0, w', rfl, hw⟩
 by_cases k6 : e.1 = 6
 · obtain ⟨b, w', e2, hw⟩ := HU h hn hk; simp only [ai k1, ai k7, ah k6, cond_true, cond_false]; rw [e2]; exact ⟨b, w', rfl, hw⟩
 simp only [ai k1, ai k7, ai k6, cond_false]
 by_cases h0 : w.2.2.2.1.length = 0
 · rw [ah (show ((List.length w.2.2.2.1 : Nat) : Int) = 0 by omega)]; exact ⟨1, w, rfl, h.up (Nat.le_succ n), fun R S hR => ⟨R, S, hR⟩⟩
 obtain ⟨i, hi⟩ := Int.eq_ofNat_of_zero_le he.at_; have bP : i % w.2.2.2.1.length < w.2.2.2.1.length := Nat.mod_lt _ (by omega); generalize hj : i % w.2.2.2.1.length = j at bP; have et : Int.tmod e.2.2.1 ((List.length w.2.2.2.1 : Nat) : Int) = ((j : Nat) : Int) := by rw [hi, ← hj]; exact yy _ _
 have hF := h.zD _ (List.getElem_mem bP); simp only [ai (show ¬ ((List.length w.2.2.2.1 : Nat) : Int) = 0 by omega), cond_false, et, aq, aC, List.getElem?_eq_getElem bP, Option.bind_some, cond_true]
 by_cases k5 : e.1 = 5
 · simp only [ah k5, cond_true, aH (show (0 + w.2.2.2.1.length) * 120 ≤ lim by unfold lim; omega), List.nil_append, aH (show (w.2.2.2.1.length + 1) * 120 ≤ lim by unfold lim; omega)]; refine ⟨0, oz w (w.2.2.2.1 ++ [w.2.2.2.1[j]]), rfl, (h.up (Nat.le_succ n)).D1 (fun f hf => ?_) ?_, fun R S hR => ⟨R, S, hR.D1 fun f hf => ?_⟩⟩
   · rcases List.mem_append.1 hf with hf | hf
     · exact h.zD f hf
     · rw [List.mem_singleton] at hf; subst hf; exact hF
   · rw [List.length_append, List.length_singleton]; omega
   · rcases List.mem_append.1 hf with hf | hf
     · exact hR.zD f hf
     · rw [List.mem_singleton] at hf; subst hf; exact hR.zD _ (List.getElem_mem bP)
 have No : (List.take j w.2.2.2.1).length ≤ w.2.2.2.1.length := by rw [List.length_take]; omega
 have QB : (List.drop (j + 1) w.2.2.2.1).length ≤ w.2.2.2.1.length := by rw [List.length_drop]; omega
 have hW : eN n c ms (oz w (List.take j w.2.2.2.1 ++ List.drop (j + 1) w.2.2.2.1)) := h.D1 (fun f hf => by
   rcases List.mem_append.1 hf with hf | hf
   · exact h.zD f (List.mem_of_mem_take hf)
   · exact h.zD f (List.mem_of_mem_drop hf)) (by rw [List.length_append, List.length_take, List.length_drop]; omega)
 have Xl : ∀ R S, nQ R S ms w → nQ R S ms (oz w (List.take j w.2.2.2.1 ++ List.drop (j + 1) w.2.2.2.1)) := fun R S hR => hR.D1 fun f hf => by
   rcases List.mem_append.1 hf with hf | hf
   · exact hR.zD f (List.mem_of_mem_take hf)
   · exact hR.zD f (List.mem_of_mem_drop hf)
 obtain ⟨b, w', e2, hw, yG⟩ := J1 hW hn hF; have e2 : dO w.1 w.2.1 w.2.2.1 (List.take j w.2.2.2.1 ++ List.drop (j + 1) w.2.2.2.1) w.2.2.2.2.1 w.2.2.2.2.2.1 (w.2.2.2.1[j]).1 (w.2.2.2.1[j]).2.1 (w.2.2.2.1[j]).2.2.1 (w.2.2.2.1[j]).2.2.2.1 (w.2.2.2.1[j]).2.2.2.2.1 (w.2.2.2.1[j]).2.2.2.2.2.1 (w.2.2.2.1[j]).2.2.2.2.2.2.1 (w.2.2.2.1[j]).2.2.2.2.2.2.2.1 (w.2.2.2.1[j]).2.2.2.2.2.2.2.2.1 (w.2.2.2.1[j]).2.2.2.2.2.2.2.2.2.1 (w.2.2.2.1[j]).2.2.2.2.2.2.2.2.2.2.1 (w.2.2.2.1[j]).2.2.2.2.2.2.2.2.2.2.2.1 = some (b, w'.1, w'.2.1, w'.2.2.1, w'.2.2.2.1, w'.2.2.2.2.1, w'.2.2.2.2.2.1, ()) := e2; simp only [ai k5, cond_false, ah (show ((j : Nat) : Int) ≤ ((List.length w.2.2.2.1 : Nat) : Int) by omega), cond_true, List.drop_zero, List.nil_append, aJ (show j < 4611686018427387904 by omega), aq, aC,
   ah (show (((j + 1 : Nat)) : Int) ≤ ((List.length w.2.2.2.1 : Nat) : Int) by omega), aH (show (0 + (List.take j w.2.2.2.1).length) * 120 ≤ lim by unfold lim; omega), aH (show ((List.take j w.2.2.2.1).length + (List.drop (j + 1) w.2.2.2.1).length) * 120 ≤ lim by unfold lim; omega), dq]
 by_cases k4 : e.1 = 4
 · rw [ah k4]; exact ⟨0, _, rfl, hW.up (Nat.le_succ n), fun R S hR => ⟨R, S, Xl R S hR⟩⟩
 · rw [ai k4, e2]; exact ⟨b, w', rfl, hw, fun R S hR => yG R S (Xl R S hR) (hR.zD _ (List.getElem_mem bP))⟩
end Go.TM
