/- A ring's life, as the reference plays it: its events. -/
import Derived.Test.YtlgnmloddedbaaaGreatCPHold
set_option linter.unusedSimpArgs false
set_option linter.unusedVariables false
namespace Go.TM
open Go
theorem NQ {n : Nat} {c : Int} {ms : bV} {w : aX} (h : cW n c ms w) (hn : n ≤ 1000000) {k : Nat} (hk : k < w.2.2.1.length) : ∃ w', kW w.1 w.2.1 w.2.2.1 w.2.2.2.1 w.2.2.2.2.1 w.2.2.2.2.2.1 ((k : Nat) : Int) = some (w'.1, w'.2.1, w'.2.2.1, w'.2.2.2.1, w'.2.2.2.2.1, w'.2.2.2.2.2.1, ()) ∧ cW (n + 1) c ms w' ∧ Hb ms w w' := by
 obtain ⟨q0, q1, q2⟩ := h.Bc; have hm := (h.ld _ (List.getElem_mem hk)).1; have hl := h.len; have hh := h.heard; have kQ : k < w.2.2.2.2.1.length := by omega
 obtain ⟨j, m', e, _, p2, p3, p4, _⟩ := L3 hm; have ha := (rC (w.2.2.1[k]).2.2.2.1 (Nat.le_trans (bj _ hm.items).1 (by decide))).2.2.1; have hi := (bj _ hm.items).1; have hg := hm.heard; have hj : j ≤ 60 := by omega
 have hx := h.list _ (List.getElem_mem kQ); refine ⟨Yy (nt w k m') (w.2.2.2.2.1.set k ((w.2.2.2.2.1[k]).1 ++ ez (w.2.2.1[k]).2.2.2.1 (w.2.2.1[k]).2.2.2.2.2.2.2.2.2.1 j, ())), ?_, ?_, fun R S hR => ?_⟩
 · have h1 := oS w (by omega) hk m'; unfold kW; simp only [ak, cond_true, au, List.getElem?_eq_getElem hk, Option.bind_some, p2, h1]; show (bif Nat.ble ((0 + w.2.2.2.2.1.length) * 24) lim then _ else none) = _; simp only [nt, aF (show (0 + w.2.2.2.2.1.length) * 24 ≤ lim by unfold lim; omega), cond_true, List.nil_append, eZ kQ, List.getElem?_eq_getElem kQ, Option.bind_some, aF (show (0 + (w.2.2.2.2.1[k]).1.length) * 40 ≤ lim by unfold lim; omega), n7, aF (show ((w.2.2.2.2.1[k]).1.length + j) * 40 ≤ lim by unfold lim; omega)]; rfl
 · have h2 := h.gS hk p3 (by rw [e]; rfl) (by rw [e]; rfl) (by rw [e]; rfl); have h3 := h2.up (show n ≤ n + 1 by omega); exact { h3 with
     heard := by show (w.2.2.2.2.1.set k _).length = _; rw [List.length_set]; exact hh
     list := fun x rF => by
       have rF : x ∈ w.2.2.2.2.1.set k _ := rF; rcases List.mem_or_eq_of_mem_set rF with rF | rfl
       · have := h.list x rF; omega
       · show ((w.2.2.2.2.1[k]).1 ++ ez _ _ j).length ≤ _; rw [List.length_append, n7]; omega }
 · have h4 := hR.Ah hk ((hR.gS k hk).same (m' := m') (by rw [e]; rfl) (by rw [e]; rfl) (by rw [e]; rfl)); exact ⟨R, S, { iG := h4.iG, gS := h4.gS, said := h4.said }⟩
theorem K3 {n : Nat} {c : Int} {ms : bV} {w : aX} (h : cW n c ms w) (hn : n ≤ 1000) {k : Nat} (hk : k < w.2.2.1.length) : ∃ a w', jS w.1 w.2.1 w.2.2.1 w.2.2.2.1 w.2.2.2.2.1 w.2.2.2.2.2.1 ((k : Nat) : Int) = some (a, w'.1, w'.2.1, w'.2.2.1, w'.2.2.2.1, w'.2.2.2.2.1, w'.2.2.2.2.2.1, ()) ∧ cW (n + 1) c ms w' ∧ Hb ms w w' := by
 obtain ⟨q0, q1, q2⟩ := h.Bc; have hm := (h.ld _ (List.getElem_mem hk)).1; have hi := (bj _ hm.items).1; have hf := h.vn; have hl : (w.2.2.1[k]).2.2.2.2.2.2.2.2.2.2.2.2.2.2.2.1.length ≤ 20 := by
   rcases hm.last with q | q
   · rw [show (w.2.2.1[k]).2.2.2.2.2.2.2.2.2.2.2.2.2.2.2.1 = [] from q.2.2.2.2.2]; exact Nat.zero_le _
   · exact q.2.2.2.2.2.1
 rw [Gd w hk q0 (by omega) (by omega) (by omega) (by omega)]
 cases hb : n6 (ew w.2.2.1[k])
 · have ht : z7 (ew w.2.2.1[k]) := by
     rcases hm.last with q | q
     · have := (rB (ew w.2.2.1[k])).2.2.2 q; rw [hb] at this; cases this
     · exact q
   refine ⟨0, sD w w.2.2.1[k], rfl, (h.up (Nat.le_succ n)).my (fun f hf => ?_) ?_, fun R S hR => ⟨R, S, Bf h hR hk fun q => by rw [(rB (ew w.2.2.1[k])).2.2.2 q] at hb; cases hb⟩⟩
   · rcases List.mem_append.1 hf with hf | hf
     · rcases List.mem_append.1 hf with hf | hf
       · exact h.iG f hf
       · rw [List.mem_singleton] at hf; subst hf; exact Ei ht
     · exact Ge (fun x hx => Ba hm.items x (List.mem_filter.1 hx).1) f hf
   · have h1 := mo w.2.2.1 (w.2.2.1[k]).1 5 q0 (EY w.2.2.1[k]); have h2 : (EY w.2.2.1[k]).length ≤ 60 := Nat.le_trans (List.length_filter_le _ _) hi; rw [List.length_append, List.length_append, List.length_singleton]; omega
 · exact ⟨1, w, rfl, h.up (Nat.le_succ n), fun R S hR => ⟨R, S, hR⟩⟩
def lE (f : la) (l : aG) : aG := l.filter fun x => decide (f.2.2.2.2.1 < x.1)
def ei (w : aX) (f : la) (l : aG) : aX := Yz w (w.2.2.2.2.2.1 ++ lE f l)
theorem Ai (f : la) (l : aG) : (lE f l).length ≤ l.length := List.length_filter_le _ _
theorem NR (w : aX) (f : la) (l : aG) (t : jZ) (h1 : w.2.2.2.2.2.1.length ≤ 1048576) (h2 : l.length ≤ 1048576) : aA bY (w.1, w.2.1, w.2.2.1, w.2.2.2.1, w.2.2.2.2.1, w.2.2.2.2.2.1, f.1, f.2.1, f.2.2.1, f.2.2.2.1, f.2.2.2.2.1, f.2.2.2.2.2.1, f.2.2.2.2.2.2.1, f.2.2.2.2.2.2.2.1, f.2.2.2.2.2.2.2.2.1, f.2.2.2.2.2.2.2.2.2.1, f.2.2.2.2.2.2.2.2.2.2.1, f.2.2.2.2.2.2.2.2.2.2.2.1, l, t.1, t.2.1, t.2.2.1, t.2.2.2.1, t.2.2.2.2.1, t.2.2.2.2.2.1, (0 : Int), ()) = some (.inl ((ei w f l).1, (ei w f l).2.1, (ei w f l).2.2.1, (ei w f l).2.2.2.1, (ei w f l).2.2.2.2.1, (ei w f l).2.2.2.2.2.1, f.1, f.2.1, f.2.2.1, f.2.2.2.1, f.2.2.2.2.1, f.2.2.2.2.2.1, f.2.2.2.2.2.2.1, f.2.2.2.2.2.2.2.1, f.2.2.2.2.2.2.2.2.1, f.2.2.2.2.2.2.2.2.2.1, f.2.2.2.2.2.2.2.2.2.2.1, f.2.2.2.2.2.2.2.2.2.2.2.1, l, t.1, t.2.1, t.2.2.1, t.2.2.2.1, t.2.2.2.2.1, t.2.2.2.2.2.1, ())) := by
 have l1 := bd (round := bY) (e := .inl ((ei w f l).1, (ei w f l).2.1, (ei w f l).2.2.1, (ei w f l).2.2.2.1, (ei w f l).2.2.2.2.1, (ei w f l).2.2.2.2.2.1, f.1, f.2.1, f.2.2.1, f.2.2.2.1, f.2.2.2.2.1, f.2.2.2.2.2.1, f.2.2.2.2.2.2.1, f.2.2.2.2.2.2.2.1, f.2.2.2.2.2.2.2.2.1, f.2.2.2.2.2.2.2.2.2.1, f.2.2.2.2.2.2.2.2.2.2.1, f.2.2.2.2.2.2.2.2.2.2.2.1, l, t.1, t.2.1, t.2.2.1, t.2.2.2.1, t.2.2.2.2.1, t.2.2.2.2.2.1, ())) l.length (fun k => ((ei w f (l.take k)).1, (ei w f (l.take k)).2.1, (ei w f (l.take k)).2.2.1, (ei w f (l.take k)).2.2.2.1, (ei w f (l.take k)).2.2.2.2.1, (ei w f (l.take k)).2.2.2.2.2.1, f.1, f.2.1, f.2.2.1, f.2.2.2.1, f.2.2.2.2.1, f.2.2.2.2.2.1, f.2.2.2.2.2.2.1, f.2.2.2.2.2.2.2.1, f.2.2.2.2.2.2.2.2.1, f.2.2.2.2.2.2.2.2.2.1, f.2.2.2.2.2.2.2.2.2.2.1, f.2.2.2.2.2.2.2.2.2.2.2.1, l, t.1, t.2.1, t.2.2.1, t.2.2.2.1, t.2.2.2.2.1, t.2.2.2.2.2.1, ((k : Nat) : Int), ())) (by
   simp only [bY, jJ, az, cond_false, List.take_length]) (fun k hk => by
   have hl := Ai f (l.take k); rw [List.length_take] at hl; have MI : Nat.ble ((0 + (w.2.2.2.2.2.1 ++ lE f (l.take k)).length) * 40) lim = true := aF (by rw [List.length_append]; unfold lim; omega); have Fi : Nat.ble (((w.2.2.2.2.2.1 ++ lE f (l.take k)).length + 1) * 40) lim = true := aF (by rw [List.length_append]; unfold lim; omega); have e : lE f (l.take (k + 1)) = lE f (l.take k) ++ (if decide (f.2.2.2.2.1 < (l[k]).1) = true then [l[k]] else []) := by
     unfold lE; rw [List.take_succ_eq_append_getElem hk, List.filter_append, List.filter_cons, List.filter_nil]
   simp only [ei, Yz, e, bY, jJ, aw hk, eZ hk, ak, cond_true, au, List.getElem?_eq_getElem hk, Option.bind_some, aC (show k < 4611686018427387904 by omega), MI, Fi, List.nil_append, bZ]
   by_cases e : f.2.2.2.2.1 < (l[k]).1
   · rw [af e, if_pos rfl, ← List.append_assoc]; rfl
   · rw [ai e, if_neg (by decide)]; simp only [cond_false]; rw [List.append_nil])
 have l1 : aA bY ((ei w f (l.take 0)).1, (ei w f (l.take 0)).2.1, (ei w f (l.take 0)).2.2.1, (ei w f (l.take 0)).2.2.2.1, (ei w f (l.take 0)).2.2.2.2.1, (ei w f (l.take 0)).2.2.2.2.2.1, f.1, f.2.1, f.2.2.1, f.2.2.2.1, f.2.2.2.2.1, f.2.2.2.2.2.1, f.2.2.2.2.2.2.1, f.2.2.2.2.2.2.2.1, f.2.2.2.2.2.2.2.2.1, f.2.2.2.2.2.2.2.2.2.1, f.2.2.2.2.2.2.2.2.2.2.1, f.2.2.2.2.2.2.2.2.2.2.2.1, l, t.1, t.2.1, t.2.2.1, t.2.2.2.1, t.2.2.2.2.1, t.2.2.2.2.2.1, (0 : Int), ()) = _ := l1; have e0 : ei w f (l.take 0) = w := by unfold ei; rw [show lE f (l.take 0) = [] from rfl, List.append_nil]; rfl
 rwa [e0] at l1
theorem Ek {R : Nat} {S : Int} {n : Nat} {c : Int} {ms : bV} {w : aX} (h : cW n c ms w) (hR : pK R S ms w) {f : la} (hf : Be R S ms f) (ht : f.2.1 = true) {k : Nat} (hk : k < w.2.2.1.length) (pM : (w.2.2.1[k]).1 = f.1) {t : jZ} (Jq : (f.2.2.1, f.2.2.2.1, f.2.2.2.2.1, f.2.2.2.2.2.1, f.2.2.2.2.2.2.1, f.2.2.2.2.2.2.2.1, ()) = t)
   {m' : bt} {said : aG} {j : Nat} {nx : jZ} (H : NO w.2.2.1[k] t m' said j nx) (hr : (w.2.2.1[k]).2.2.2.2.2.2.1 < t.2.1) {w2 : aX} (Hr : ei (nt w k m') f said = w2) :
   pK (R + 1) (S + ((j : Nat) : Int)) ms (fG (fG w2 (w2.2.2.2.1 ++ cB w2.2.2.1 f.1 said)) ((w2.2.2.2.1 ++ cB w2.2.2.1 f.1 said) ++ [ee (gO w2.1 w2.2.1 f.1) nx])) := by
 have kQ : k < ms.length := by rw [← h.len]; exact hk
 obtain ⟨r1, r2, r3, r4⟩ := xd h hR hf ht hk pM (by rw [← Jq] at hr; exact hr); have t1 : t.2.1 = ((R : Nat) : Int) := by rw [← Jq]; exact r3
 have t2 : t.2.2.1 = S := by rw [← Jq]; exact r4
 have hs : ∀ x ∈ said, x.1 ≤ S + ((j : Nat) : Int) := fun x hx => by
   rw [H.said] at hx; rcases List.mem_append.1 hx with hx | hx
   · have := (hR.gS k hk).items x (Ec hx); omega
   · obtain ⟨i, hi, rfl⟩ := ql hx; show t.2.2.1 + ((i + 1 : Nat) : Int) ≤ _; omega
 have hm : tg (R + 1) (S + ((j : Nat) : Int)) ms.length k m' := ⟨fun x hx => by
     rw [H.items] at hx; rcases yL _ hx with hx | hx
     · obtain ⟨i, hi, rfl⟩ := ql hx; show t.2.2.1 + ((i + 1 : Nat) : Int) ≤ _; omega
     · have := (hR.gS k hk).items x hx; omega, R, by rw [H.round.1, t1], by omega, fun r _ h2 _ => by omega, .inr ⟨r1, r2, by show ((m'.2.2.2.2.2.2.2.2.2.2.1, m'.2.2.2.2.2.2.2.2.2.2.2.1, m'.2.2.2.2.2.2.2.2.2.2.2.2.1, m'.2.2.2.2.2.2.2.2.2.2.2.2.2.1, m'.2.2.2.2.2.2.2.2.2.2.2.2.2.2.1, m'.2.2.2.2.2.2.2.2.2.2.2.2.2.2.2.1, ()) : jZ).2.1 = _; rw [H.last, H.next.2.1, t1]; omega, fun _ => by show ((m'.2.2.2.2.2.2.2.2.2.2.1, m'.2.2.2.2.2.2.2.2.2.2.2.1, m'.2.2.2.2.2.2.2.2.2.2.2.2.1, m'.2.2.2.2.2.2.2.2.2.2.2.2.2.1, m'.2.2.2.2.2.2.2.2.2.2.2.2.2.2.1, m'.2.2.2.2.2.2.2.2.2.2.2.2.2.2.2.1, ()) : jZ).2.2.1 = _; rw [H.last, H.next.2.2, t2]⟩⟩
 have hW : pK (R + 1) (S + ((j : Nat) : Int)) ms w2 := by
   rw [← Hr]; refine { iG := fun g hg => (hR.iG g hg).up, gS := fun i hi => ?_, said := fun x hx => ?_ }
   · have hi : i < (w.2.2.1.set k m').length := hi; show tg _ _ ms.length i (w.2.2.1.set k m')[i]; rw [List.getElem_set]; rw [List.length_set] at hi
     split
     · rename_i e; subst e; exact hm
     · rename_i e; have hM := hR.gS i hi; obtain ⟨q, q1, q2, q3, q4⟩ := hM.last; refine ⟨fun x hx => by have := hM.items x hx; omega, q, q1, by omega, fun r a b g => ?_, ?_⟩
       · by_cases e2 : r < R
         · exact q3 r a e2 g
         · have : r = R := by omega
           subst this; exact absurd (r2.symm.trans g) e
       · rcases q4 with q4 | ⟨g1, g2, g3, g4⟩
         · exact .inl q4
         · exact .inr ⟨g1, g2, g3, fun e => by omega⟩
   · have hx : x ∈ w.2.2.2.2.2.1 ++ lE f said := hx; rcases List.mem_append.1 hx with hx | hx
     · have := hR.said x hx; omega
     · exact hs x (List.mem_filter.1 hx).1
 refine hW.my fun g hg => ?_
 rcases List.mem_append.1 hg with hg | hg
 · rcases List.mem_append.1 hg with hg | hg
   · exact hW.iG g hg
   · exact Ug hs g hg
 · rw [List.mem_singleton] at hg; subst hg; have e1 : w2.1 = c := by rw [← Hr]; exact h.self.1
   have e2 : w2.2.1 = ms := by rw [← Hr]; exact h.self.2
   rw [e1, e2, ← pM, h.ids k hk kQ]; exact adq h.ring kQ r1 r2 (Nat.le_refl _) (by rw [H.next.2.1, t1]; omega) (fun _ => by rw [H.next.2.2, t2])
theorem NS {n : Nat} {c : Int} {ms : bV} {w : aX} (h : cW n c ms w) (hn : n ≤ 1000) {f : la} (hf : I9 f) : ∃ a w', iA w.1 w.2.1 w.2.2.1 w.2.2.2.1 w.2.2.2.2.1 w.2.2.2.2.2.1 f.1 f.2.1 f.2.2.1 f.2.2.2.1 f.2.2.2.2.1 f.2.2.2.2.2.1 f.2.2.2.2.2.2.1 f.2.2.2.2.2.2.2.1 f.2.2.2.2.2.2.2.2.1 f.2.2.2.2.2.2.2.2.2.1 f.2.2.2.2.2.2.2.2.2.2.1 f.2.2.2.2.2.2.2.2.2.2.2.1 = some (a, w'.1, w'.2.1, w'.2.2.1, w'.2.2.2.1, w'.2.2.2.2.1, w'.2.2.2.2.2.1, ()) ∧ cW (n + 1) c ms w' ∧ ∀ R S, pK R S ms w → Be R S ms f → ∃ R' S', pK R' S' ms w' := by
 obtain ⟨q0, q1, q2⟩ := h.Bc; have NT := h.vn; obtain ⟨a, e1, hq⟩ := K2 w (by omega) f.1; unfold iA
 try simp only [bZ]
 simp only [e1, Option.bind_some]; rcases hq with ⟨rfl, _⟩ | ⟨k, hk, rfl, pM⟩
 · exact ⟨1, w, rfl, h.up (Nat.le_succ n), fun R S hR _ => ⟨R, S, hR⟩⟩
 obtain ⟨hm, hc, hr⟩ := h.ld _ (List.getElem_mem hk); have hi := (bj _ hm.items).1; simp only [ai (show ¬ ((k : Nat) : Int) < 0 by omega), cond_false, ak, cond_true, au, List.getElem?_eq_getElem hk, Option.bind_some]
 cases ht : f.2.1
 · have hx := hf.item ht; have e2 := (D8 w.2.2.1[k] (f.2.2.2.2.2.2.2.2.1, f.2.2.2.2.2.2.2.2.2.1, f.2.2.2.2.2.2.2.2.2.2.1, f.2.2.2.2.2.2.2.2.2.2.2.1, ()) (Nat.le_trans hm.small (by decide))).1; rw [tf hm hx] at e2; have e3 := oS w (by omega) hk (qA w.2.2.1[k] (lu (w.2.2.1[k]).2.2.2.1 (f.2.2.2.2.2.2.2.2.1, f.2.2.2.2.2.2.2.2.2.1, f.2.2.2.2.2.2.2.2.2.2.1, f.2.2.2.2.2.2.2.2.2.2.2.1, ()))); refine ⟨0, nt w k (qA w.2.2.1[k] (lu (w.2.2.1[k]).2.2.2.1 (f.2.2.2.2.2.2.2.2.1, f.2.2.2.2.2.2.2.2.2.1, f.2.2.2.2.2.2.2.2.2.2.1, f.2.2.2.2.2.2.2.2.2.2.2.1, ()))), ?_, (h.gS hk (Ej hm hx) rfl rfl rfl).up (Nat.le_succ n), fun R S hR hN => ⟨R, S, hR.Ah hk (Bg (hR.gS k hk) (hN.item ht))⟩⟩; simp only [Bool.not_false, cond_true]; rw [e2]; simp only [Option.bind_some]; rw [e3]; rfl
 · have hT := hf.tok ht; simp only [Bool.not_true, cond_false]; generalize ht' : ((f.2.2.1, f.2.2.2.1, f.2.2.2.2.1, f.2.2.2.2.2.1, f.2.2.2.2.2.2.1, f.2.2.2.2.2.2.2.1, ()) : jZ) = t at hT; have Jq : (f.2.2.1, f.2.2.2.1, f.2.2.2.2.1, f.2.2.2.2.2.1, f.2.2.2.2.2.2.1, f.2.2.2.2.2.2.2.1, ()) = t := ht'
   cases hh : Gc w.2.2.1[k] t
   · have e2 := (L1 w.2.2.1[k] t (Nat.le_trans hm.small (by decide)) (Nat.le_trans hT.2.2.2.2.2.1 (by decide)) hh).2; subst Jq; rw [e2]; exact ⟨1, w, rfl, h.up (Nat.le_succ n), fun R S hR _ => ⟨R, S, hR⟩⟩
   · unfold Gc at hh; simp only [Bool.and_eq_true, decide_eq_true_eq] at hh; obtain ⟨m', said, j, nx, H, _, e2⟩ := L0 w.2.2.1[k] t hm hT hh.2.2.1 hh.2.2.2.1 hh.2.2.2.2; have Uh : ∀ x ∈ said, lD x := fun x hx => by
       rw [H.said] at hx; rcases List.mem_append.1 hx with hx | hx
       · exact Ba hm.items x (Ec hx)
       · exact BZ ⟨hT.2.2.1.1, H.vn.2.2⟩ hm.id H.vn.2.1 hm.short x hx
     have hlen : said.length ≤ 63 := by
       rw [H.said, List.length_append, eU]; have := Ed t (w.2.2.1[k]).2.2.2.1; have := H.vn.1; omega
     have hs := h.said; have e3 := oS w (by omega) hk m'; have hW := h.gS hk H.nq H.id.1 H.id.2.1 H.id.2.2; have RJ := Ai f said; have e4 := NR (nt w k m') f said nx (by show w.2.2.2.2.2.1.length ≤ _; omega) (by omega); generalize Hr : ei (nt w k m') f said = w2 at e4; have p1 : w2.2.2.1 = w.2.2.1.set k m' := by rw [← Hr]; rfl
     have p2 : w2.2.2.2.1 = w.2.2.2.1 := by rw [← Hr]; rfl
     have p3 : w2.2.1 = w.2.1 := by rw [← Hr]; rfl
     have hW2 : cW (n + 1) c ms w2 := by
       rw [← Hr]; exact { hW.up (Nat.le_succ n) with
         said := ⟨fun x hx => by
           have hx : x ∈ w.2.2.2.2.2.1 ++ lE f said := hx; rcases List.mem_append.1 hx with hx | hx
           · exact hs.1 x hx
           · exact Uh x (List.mem_filter.1 hx).1, by
           show (w.2.2.2.2.2.1 ++ lE f said).length ≤ _; rw [List.length_append]; omega⟩ }
     have hm5 : w2.2.2.1.length ≤ 5 := by rw [p1, List.length_set]; exact q0
     have e5 := Eh w2 f.1 said hm5 (by rw [p2]; omega) (by omega); have Rj := mo w2.2.2.1 f.1 5 hm5 said; have hl6 : (w2.2.2.2.1 ++ cB w2.2.2.1 f.1 said).length ≤ w.2.2.2.1.length + 315 := by rw [List.length_append, p2]; omega
     have e6 := Bb (fG w2 (w2.2.2.2.1 ++ cB w2.2.2.1 f.1 said)) f.1 nx (by show w2.2.1.length ≤ _; rw [p3]; omega) (by show (w2.2.2.2.1 ++ cB w2.2.2.1 f.1 said).length ≤ _; omega) (Nat.le_trans H.tq.2.2.2.2.2.1 (by decide)); refine ⟨0, fG (fG w2 (w2.2.2.2.1 ++ cB w2.2.2.1 f.1 said)) ((w2.2.2.2.1 ++ cB w2.2.2.1 f.1 said) ++ [ee (gO w2.1 w2.2.1 f.1) nx]), ?_, (hW2.my (fun g hg => ?_) ?_), fun R S hR hN => ⟨R + 1, _, Ek h hR hN ht hk pM Jq H hh.2.2.2.1 Hr⟩⟩
     · subst Jq; rw [e2]; simp only [Option.bind_some, Bool.not_true, cond_false]; rw [e3]; simp only [Option.bind_some]; have e4' := e4; simp only [e4, bz, Option.bind_some]; rw [show f.2.1 = true from ht] at e4; rw [e4]; simp only [Option.bind_some]; rw [e5]; simp only [Option.bind_some]; rw [e6]; rfl
     · rcases List.mem_append.1 hg with hg | hg
       · rcases List.mem_append.1 hg with hg | hg
         · rw [p2] at hg; exact h.iG g hg
         · exact Ge Uh g hg
       · rw [List.mem_singleton] at hg; subst hg; exact Ei H.tq
     · rw [List.length_append, List.length_singleton]; omega
abbrev lF : Type := Int × Int × Int × Int × ByteArray × Unit
structure Ci (ms : bV) (e : lF) : Prop where
 kind : 1 ≤ e.1 ∧ e.1 ≤ 7
 id : (e.2.1, ()) ∈ ms
 at_ : 0 ≤ e.2.2.1
 SQ : e.1 = 1 → (1 ≤ e.2.2.2.1 ∧ e.2.2.2.1 ≤ 2) ∧ ByteArray.size e.2.2.2.2.1 ≤ 60
 no : e.1 ≠ 1 → e.2.2.2.1 = 0 ∧ e.2.2.2.2.1 = ByteArray.empty
theorem lH {c : Int} {ms : bV} (hr : lk c ms) {e : lF} (he : Ci ms e) : sf c ms e.1 e.2.1 e.2.2.1 e.2.2.2.1 e.2.2.2.2.1 = some (true, ()) := by
 have hl := hr.2.1.2; unfold sf; simp only [(lR c ms (by omega)).1, (lR c ms (by omega)).2.2.2 hr, Option.bind_some, Bool.not_true, cond_false, oQ, af he.kind.1, af he.kind.2, Bool.and_self, Cp ms e.2.1 (by omega), af he.id, ai (show ¬ e.2.2.1 < 0 by have := he.at_; omega)]
 by_cases h1 : e.1 = 1
 · obtain ⟨⟨a1, a2⟩, a3⟩ := he.SQ h1; rw [af h1, af a1, af a2, af (show ((ByteArray.size e.2.2.2.2.1 : Nat) : Int) ≤ 60 by omega)]; rfl
 · obtain ⟨a1, a2⟩ := he.no h1; rw [ai h1, af a1, a2]; show some (j3 ByteArray.empty ByteArray.empty, ()) = _; rw [l7]
theorem L5 {n : Nat} {c : Int} {ms : bV} {w : aX} (h : cW n c ms w) (hn : n ≤ 1000) {e : lF} (he : Ci ms e) : ∃ a w', l8 w.1 w.2.1 w.2.2.1 w.2.2.2.1 w.2.2.2.2.1 w.2.2.2.2.2.1 e.1 e.2.1 e.2.2.1 e.2.2.2.1 e.2.2.2.2.1 = some (a, w'.1, w'.2.1, w'.2.2.1, w'.2.2.2.1, w'.2.2.2.2.1, w'.2.2.2.2.2.1, ()) ∧ cW (n + 1) c ms w' ∧ Hb ms w w' := by
 obtain ⟨q0, q1, q2⟩ := h.Bc; have NT := h.vn; obtain ⟨a, e1, hq⟩ := K2 w (by omega) e.2.1; have hq : ∃ k, ∃ hk : k < w.2.2.1.length, a = ((k : Nat) : Int) ∧ (w.2.2.1[k]).1 = e.2.1 := by
   rcases hq with ⟨_, g⟩ | g
   · obtain ⟨j, hj, ej⟩ := List.mem_iff_getElem.1 he.id; have IA : j < w.2.2.1.length := by rw [h.len]; exact hj
     exact absurd ((h.ids j IA hj).trans (congrArg Prod.fst ej)) (g j IA)
   · exact g
 obtain ⟨k, hk, rfl, pM⟩ := hq; obtain ⟨hm, hc, hr⟩ := h.ld _ (List.getElem_mem hk); unfold l8
 try simp only [bZ]
 simp only [e1, Option.bind_some]
 by_cases k1 : e.1 = 1
 · obtain ⟨a1, a2⟩ := he.SQ k1; have e2 := (I6 w.2.2.1[k] e.2.2.2.1 e.2.2.2.2.1 (Nat.le_trans hm.small (by decide))).1; simp only [af k1, cond_true, ak, au, List.getElem?_eq_getElem hk, Option.bind_some]; rw [e2]; simp only [Option.bind_some]
   cases hb : (iV w.2.2.1[k] e.2.2.2.1 e.2.2.2.2.1).2
   · exact ⟨1, w, rfl, h.up (Nat.le_succ n), fun R S hR => ⟨R, S, hR⟩⟩
   · have Hc : I5 w.2.2.1[k] e.2.2.2.1 e.2.2.2.2.1 = true := by
       unfold iV at hb
       cases YP : I5 w.2.2.1[k] e.2.2.2.1 e.2.2.2.2.1
       · rw [YP] at hb; cases hb
       · rfl
     have hs : (iV w.2.2.1[k] e.2.2.2.1 e.2.2.2.2.1).1 = Ae w.2.2.1[k] e.2.2.2.1 e.2.2.2.2.1 := by unfold iV; rw [Hc]; rfl
     unfold I5 at Hc; simp only [Bool.and_eq_true, decide_eq_true_eq] at Hc; have e3 := oS w (by omega) hk (Ae w.2.2.1[k] e.2.2.2.1 e.2.2.2.2.1); rw [hs]; simp only [Bool.not_true, cond_false]; rw [e3]; exact ⟨0, _, rfl, (h.gS hk (L2 hm a1 a2 Hc.2.2.2) rfl rfl rfl).up (Nat.le_succ n), fun R S hR => ⟨R, S, hR.Ah hk ((hR.gS k hk).same rfl rfl rfl)⟩⟩
 by_cases k7 : e.1 = 7
 · obtain ⟨w', e2, hw⟩ := NQ h (by omega) hk; simp only [ai k1, af k7, cond_true, cond_false]; rw [e2]; exact ⟨0, w', rfl, hw⟩
 by_cases k6 : e.1 = 6
 · obtain ⟨b, w', e2, hw⟩ := K3 h hn hk; simp only [ai k1, ai k7, af k6, cond_true, cond_false]; rw [e2]; exact ⟨b, w', rfl, hw⟩
 simp only [ai k1, ai k7, ai k6, cond_false]
 by_cases h0 : w.2.2.2.1.length = 0
 · rw [af (show ((List.length w.2.2.2.1 : Nat) : Int) = 0 by omega)]; exact ⟨1, w, rfl, h.up (Nat.le_succ n), fun R S hR => ⟨R, S, hR⟩⟩
 obtain ⟨i, hi⟩ := Int.eq_ofNat_of_zero_le he.at_; have bN : i % w.2.2.2.1.length < w.2.2.2.1.length := Nat.mod_lt _ (by omega); generalize hj : i % w.2.2.2.1.length = j at bN; have et : Int.tmod e.2.2.1 ((List.length w.2.2.2.1 : Nat) : Int) = ((j : Nat) : Int) := by rw [hi, ← hj]; exact xc _ _
 have hF := h.iG _ (List.getElem_mem bN); simp only [ai (show ¬ ((List.length w.2.2.2.1 : Nat) : Int) = 0 by omega), cond_false, et, ak, au, List.getElem?_eq_getElem bN, Option.bind_some, cond_true]
 by_cases k5 : e.1 = 5
 · simp only [af k5, cond_true, aF (show (0 + w.2.2.2.1.length) * 120 ≤ lim by unfold lim; omega), List.nil_append, aF (show (w.2.2.2.1.length + 1) * 120 ≤ lim by unfold lim; omega)]; refine ⟨0, fG w (w.2.2.2.1 ++ [w.2.2.2.1[j]]), rfl, (h.up (Nat.le_succ n)).my (fun f hf => ?_) ?_, fun R S hR => ⟨R, S, hR.my fun f hf => ?_⟩⟩
   · rcases List.mem_append.1 hf with hf | hf
     · exact h.iG f hf
     · rw [List.mem_singleton] at hf; subst hf; exact hF
   · rw [List.length_append, List.length_singleton]; omega
   · rcases List.mem_append.1 hf with hf | hf
     · exact hR.iG f hf
     · rw [List.mem_singleton] at hf; subst hf; exact hR.iG _ (List.getElem_mem bN)
 have Oa : (List.take j w.2.2.2.1).length ≤ w.2.2.2.1.length := by rw [List.length_take]; omega
 have RJ : (List.drop (j + 1) w.2.2.2.1).length ≤ w.2.2.2.1.length := by rw [List.length_drop]; omega
 have hW : cW n c ms (fG w (List.take j w.2.2.2.1 ++ List.drop (j + 1) w.2.2.2.1)) := h.my (fun f hf => by
   rcases List.mem_append.1 hf with hf | hf
   · exact h.iG f (List.mem_of_mem_take hf)
   · exact h.iG f (List.mem_of_mem_drop hf)) (by rw [List.length_append, List.length_take, List.length_drop]; omega)
 have K4 : ∀ R S, pK R S ms w → pK R S ms (fG w (List.take j w.2.2.2.1 ++ List.drop (j + 1) w.2.2.2.1)) := fun R S hR => hR.my fun f hf => by
   rcases List.mem_append.1 hf with hf | hf
   · exact hR.iG f (List.mem_of_mem_take hf)
   · exact hR.iG f (List.mem_of_mem_drop hf)
 obtain ⟨b, w', e2, hw, Cb⟩ := NS hW hn hF; have e2 : iA w.1 w.2.1 w.2.2.1 (List.take j w.2.2.2.1 ++ List.drop (j + 1) w.2.2.2.1) w.2.2.2.2.1 w.2.2.2.2.2.1 (w.2.2.2.1[j]).1 (w.2.2.2.1[j]).2.1 (w.2.2.2.1[j]).2.2.1 (w.2.2.2.1[j]).2.2.2.1 (w.2.2.2.1[j]).2.2.2.2.1 (w.2.2.2.1[j]).2.2.2.2.2.1 (w.2.2.2.1[j]).2.2.2.2.2.2.1 (w.2.2.2.1[j]).2.2.2.2.2.2.2.1 (w.2.2.2.1[j]).2.2.2.2.2.2.2.2.1 (w.2.2.2.1[j]).2.2.2.2.2.2.2.2.2.1 (w.2.2.2.1[j]).2.2.2.2.2.2.2.2.2.2.1 (w.2.2.2.1[j]).2.2.2.2.2.2.2.2.2.2.2.1 = some (b, w'.1, w'.2.1, w'.2.2.1, w'.2.2.2.1, w'.2.2.2.2.1, w'.2.2.2.2.2.1, ()) := e2; simp only [ai k5, cond_false, af (show ((j : Nat) : Int) ≤ ((List.length w.2.2.2.1 : Nat) : Int) by omega), cond_true, List.drop_zero, List.nil_append, aC (show j < 4611686018427387904 by omega), ak, au,
   af (show (((j + 1 : Nat)) : Int) ≤ ((List.length w.2.2.2.1 : Nat) : Int) by omega), aF (show (0 + (List.take j w.2.2.2.1).length) * 120 ≤ lim by unfold lim; omega), aF (show ((List.take j w.2.2.2.1).length + (List.drop (j + 1) w.2.2.2.1).length) * 120 ≤ lim by unfold lim; omega), bZ]
 by_cases k4 : e.1 = 4
 · rw [af k4]; exact ⟨0, _, rfl, hW.up (Nat.le_succ n), fun R S hR => ⟨R, S, K4 R S hR⟩⟩
 · rw [ai k4, e2]; exact ⟨b, w', rfl, hw, fun R S hR => Cb R S (K4 R S hR) (hR.iG _ (List.getElem_mem bN))⟩
end Go.TM
