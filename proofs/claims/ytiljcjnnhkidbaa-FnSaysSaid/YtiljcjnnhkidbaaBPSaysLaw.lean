/- What a member has to say is said in its order: the law. -/
import Derived.Test.YtiljcjnnhkidbaaBPPDrawRing
set_option linter.unusedSimpArgs false
set_option linter.unusedVariables false
namespace Go.TM
open Go
abbrev TxtL : Type := List (ByteArray × Unit)
theorem sameT_self (l : TxtL) (h : l.length ≤ 1048576) : laws_sameTexts l l = some (true, ()) := by
 have hl := loop_run (round := laws_sameTexts_r0) (e := .inl ()) l.length (fun k => (l, l, ((k : Nat) : Int), ())) (by
   simp only [laws_sameTexts_r0, laws_sameTexts_c0, lt_nat_irr, cond_false]) (fun k hk => by
   simp only [laws_sameTexts_r0, laws_sameTexts_c0, lt_nat_true hk, zero_le_nat, cond_true, toNat_nat, List.getElem?_eq_getElem hk, Option.bind_some, strEq_self, Bool.not_true, cond_false, succ_wrap (show k < 4611686018427387904 by omega)])
 have hl : loopV laws_sameTexts_r0 (l, l, (0 : Int), ()) = _ := hl; unfold laws_sameTexts; rw [dec_true (rfl : ((List.length l : Nat) : Int) = ((List.length l : Nat) : Int)), hl]; rfl
theorem drawtexts_ok (code : List (Int × Unit)) (h : code.length ≤ 1048576) : ∃ w : TxtL, spec_DrawTexts code = some (w, ()) ∧ w.length ≤ 8 ∧ ∀ x ∈ w, ByteArray.size x.1 ≤ 11 := by
 obtain ⟨s0, e0⟩ := new_ok code h; unfold spec_DrawTexts; simp only [e0, Option.bind_some]; obtain ⟨e, he, hq⟩ := loop_inv (round := spec_DrawTexts_r0) (x := (code, (0 : Int), s0, [], ((0 : Nat) : Int), ())) 8 (fun k x => ∃ (a s : Int) (l : TxtL), x = (code, a, s, l, ((k : Nat) : Int), ()) ∧ l.length ≤ k ∧ (∀ x ∈ l, ByteArray.size x.1 ≤ 11) ∧ DrawAt code a)
   (fun e => ∃ l : TxtL, e = .inl (l, ()) ∧ l.length ≤ 8 ∧ ∀ x ∈ l, ByteArray.size x.1 ≤ 11) (by
     rintro x ⟨a, s, l, rfl, q1, q2, d⟩
     obtain ⟨v, a1, s1, e1, v0, v1, d1⟩ := below_ok code a s 9 d (by omega); refine ⟨_, ?_, l, rfl, q1, q2⟩; simp only [spec_DrawTexts_r0, spec_DrawTexts_c0, e1, Option.bind_some, dec_false (show ¬ ((8 : Nat) : Int) < v by omega), cond_false]) (by
     rintro k x hk ⟨a, s, l, rfl, q1, q2, d⟩
     obtain ⟨v, a1, s1, e1, v0, v1, d1⟩ := below_ok code a s 9 d (by omega)
     by_cases hv : ((k : Nat) : Int) < v
     · obtain ⟨n, a2, s2, e2, n0, n1, d2⟩ := below_ok code a1 s1 12 d1 (by omega); obtain ⟨n, rfl⟩ := Int.eq_ofNat_of_zero_le n0; obtain ⟨b, a3, s3, e3, hb, d3⟩ := text_size code a2 s2 n d2 (by omega); refine .inr ⟨_, ?_, a3, s3, l ++ [(b, ())], rfl, by simp; omega, fun x hx => ?_, d3⟩
       · simp only [spec_DrawTexts_r0, spec_DrawTexts_c0, e1, e2, e3, Option.bind_some, dec_true hv, cond_true, ble_true (show (l.length + 1) * 16 ≤ lim by unfold lim; omega), succ_wrap (show k < 4611686018427387904 by omega)]
       · rcases List.mem_append.1 hx with hx | hx
         · exact q2 x hx
         · rw [List.mem_singleton] at hx; subst hx; show b.size ≤ 11; omega
     · refine .inl ⟨_, ?_, l, rfl, by omega, q2⟩; simp only [spec_DrawTexts_r0, spec_DrawTexts_c0, e1, Option.bind_some, dec_false hv, cond_false]) ⟨0, s0, [], rfl, Nat.le_refl _, (fun x hx => by cases hx), ⟨by omega, by omega, h⟩⟩
 have he : loopV spec_DrawTexts_r0 (code, (0 : Int), s0, [], (0 : Int), ()) = some e := he; obtain ⟨l, rfl, l1, l2⟩ := hq; rw [he]; exact ⟨l, rfl, l1, l2⟩
def newMat (d c : Int) (ms : MemL) (w : TxtL) (i : Nat) : MatR := (d, c, ms, [], List.replicate i ((1 : Int), ()), w.take i, 0, 0, 0, 0, 0, 0, 0, 0, 0, [], ())
theorem ringP_of {c : Int} {ms : MemL} (h : RingV c ms) : RingP c ms := ⟨⟨h.id1, h.id2⟩, ⟨h.some_, h.len⟩, fun k hk _ => ⟨by have := h.rising.2.1 k hk; omega, fun h0 => h.rising.2.2 (k - 1) k (by omega) hk (by omega)⟩⟩
theorem newMat_ok {c : Int} {ms : MemL} (h : RingV c ms) {w : TxtL} (hw : w.length ≤ 8) (hx : ∀ x ∈ w, ByteArray.size x.1 ≤ 11) {i : Nat} (hi : i ≤ w.length) : MatQ (newMat (ms[0]'(h.some_)).1 c ms w i) := {
 ring := ringP_of h
 mem := List.getElem_mem _
 items := fun k hk => by cases hk
 texts := ⟨by show (w.take i).length ≤ 20; rw [List.length_take]; omega, by show (List.replicate i ((1 : Int), ())).length = (w.take i).length; rw [List.length_take, List.length_replicate]; omega⟩
 lev := fun j hj _ => by
   have hj : j < (List.replicate i ((1 : Int), ())).length := hj; have e : (List.replicate i ((1 : Int), ()))[j] = ((1 : Int), ()) := by simp
   show (decide (1 ≤ (List.replicate i ((1 : Int), ()))[j].1) && decide ((List.replicate i ((1 : Int), ()))[j].1 ≤ 2)) = true; rw [e]; rfl
 short := fun j hj _ => by
   have hj : j < (w.take i).length := hj; show ByteArray.size (w.take i)[j].1 ≤ 60; have := hx _ (List.mem_of_mem_take (List.getElem_mem hj)); omega
 round := ⟨by show (0 : Int) ≤ 0; omega, by show (0 : Int) ≤ 1000000000; omega⟩
 seen := ⟨by show (0 : Int) ≤ 0; omega, by show (0 : Int) ≤ 60; omega⟩
 line := ⟨by show (0 : Int) ≤ 0; omega, by show (0 : Int) ≤ _; omega⟩
 heard := ⟨by show (0 : Int) ≤ 0; omega, by show (0 : Int) ≤ _; omega⟩
 last := .inl ⟨rfl, rfl, rfl, rfl, rfl, rfl⟩ }
theorem says_r0 {c : Int} {ms : MemL} (h : RingV c ms) {w : TxtL} (hw : w.length ≤ 8) (hx : ∀ x ∈ w, ByteArray.size x.1 ≤ 11) (ok : Bool) : loopV laws_FnSays_r0 (c, ms, w, (newMat (ms[0]'(h.some_)).1 c ms w 0).1, (newMat (ms[0]'(h.some_)).1 c ms w 0).2.1, (newMat (ms[0]'(h.some_)).1 c ms w 0).2.2.1, (newMat (ms[0]'(h.some_)).1 c ms w 0).2.2.2.1, (newMat (ms[0]'(h.some_)).1 c ms w 0).2.2.2.2.1, (newMat (ms[0]'(h.some_)).1 c ms w 0).2.2.2.2.2.1, (newMat (ms[0]'(h.some_)).1 c ms w 0).2.2.2.2.2.2.1, (newMat (ms[0]'(h.some_)).1 c ms w 0).2.2.2.2.2.2.2.1, (newMat (ms[0]'(h.some_)).1 c ms w 0).2.2.2.2.2.2.2.2.1, (newMat (ms[0]'(h.some_)).1 c ms w 0).2.2.2.2.2.2.2.2.2.1, (newMat (ms[0]'(h.some_)).1 c ms w 0).2.2.2.2.2.2.2.2.2.2.1, (newMat (ms[0]'(h.some_)).1 c ms w 0).2.2.2.2.2.2.2.2.2.2.2.1, (newMat (ms[0]'(h.some_)).1 c ms w 0).2.2.2.2.2.2.2.2.2.2.2.2.1, (newMat (ms[0]'(h.some_)).1 c ms w 0).2.2.2.2.2.2.2.2.2.2.2.2.2.1, (newMat (ms[0]'(h.some_)).1 c ms w 0).2.2.2.2.2.2.2.2.2.2.2.2.2.2.1, (newMat (ms[0]'(h.some_)).1 c ms w 0).2.2.2.2.2.2.2.2.2.2.2.2.2.2.2.1, ok, (0 : Int), (0 : Int), ()) = some (.inl (c, ms, w, (newMat (ms[0]'(h.some_)).1 c ms w w.length).1, (newMat (ms[0]'(h.some_)).1 c ms w w.length).2.1, (newMat (ms[0]'(h.some_)).1 c ms w w.length).2.2.1, (newMat (ms[0]'(h.some_)).1 c ms w w.length).2.2.2.1, (newMat (ms[0]'(h.some_)).1 c ms w w.length).2.2.2.2.1, (newMat (ms[0]'(h.some_)).1 c ms w w.length).2.2.2.2.2.1, (newMat (ms[0]'(h.some_)).1 c ms w w.length).2.2.2.2.2.2.1, (newMat (ms[0]'(h.some_)).1 c ms w w.length).2.2.2.2.2.2.2.1, (newMat (ms[0]'(h.some_)).1 c ms w w.length).2.2.2.2.2.2.2.2.1, (newMat (ms[0]'(h.some_)).1 c ms w w.length).2.2.2.2.2.2.2.2.2.1, (newMat (ms[0]'(h.some_)).1 c ms w w.length).2.2.2.2.2.2.2.2.2.2.1, (newMat (ms[0]'(h.some_)).1 c ms w w.length).2.2.2.2.2.2.2.2.2.2.2.1, (newMat (ms[0]'(h.some_)).1 c ms w w.length).2.2.2.2.2.2.2.2.2.2.2.2.1, (newMat (ms[0]'(h.some_)).1 c ms w w.length).2.2.2.2.2.2.2.2.2.2.2.2.2.1, (newMat (ms[0]'(h.some_)).1 c ms w w.length).2.2.2.2.2.2.2.2.2.2.2.2.2.2.1, (newMat (ms[0]'(h.some_)).1 c ms w w.length).2.2.2.2.2.2.2.2.2.2.2.2.2.2.2.1, ok, ((w.length : Nat) : Int), ())) := by
 refine loop_run (round := laws_FnSays_r0) w.length (fun k => (c, ms, w, (newMat (ms[0]'(h.some_)).1 c ms w k).1, (newMat (ms[0]'(h.some_)).1 c ms w k).2.1, (newMat (ms[0]'(h.some_)).1 c ms w k).2.2.1, (newMat (ms[0]'(h.some_)).1 c ms w k).2.2.2.1, (newMat (ms[0]'(h.some_)).1 c ms w k).2.2.2.2.1, (newMat (ms[0]'(h.some_)).1 c ms w k).2.2.2.2.2.1, (newMat (ms[0]'(h.some_)).1 c ms w k).2.2.2.2.2.2.1, (newMat (ms[0]'(h.some_)).1 c ms w k).2.2.2.2.2.2.2.1, (newMat (ms[0]'(h.some_)).1 c ms w k).2.2.2.2.2.2.2.2.1, (newMat (ms[0]'(h.some_)).1 c ms w k).2.2.2.2.2.2.2.2.2.1, (newMat (ms[0]'(h.some_)).1 c ms w k).2.2.2.2.2.2.2.2.2.2.1, (newMat (ms[0]'(h.some_)).1 c ms w k).2.2.2.2.2.2.2.2.2.2.2.1, (newMat (ms[0]'(h.some_)).1 c ms w k).2.2.2.2.2.2.2.2.2.2.2.2.1, (newMat (ms[0]'(h.some_)).1 c ms w k).2.2.2.2.2.2.2.2.2.2.2.2.2.1, (newMat (ms[0]'(h.some_)).1 c ms w k).2.2.2.2.2.2.2.2.2.2.2.2.2.2.1, (newMat (ms[0]'(h.some_)).1 c ms w k).2.2.2.2.2.2.2.2.2.2.2.2.2.2.2.1, ok, ((k : Nat) : Int), ((k : Nat) : Int), ())) (by
   simp only [laws_FnSays_r0, laws_FnSays_c0, lt_nat_irr, cond_false]) (fun k hk => ?_)
 have hm := newMat_ok h hw hx (i := k) (by omega); have hb := hx _ (List.getElem_mem hk); have hs := (say_same (newMat (ms[0]'(h.some_)).1 c ms w k) 1 w[k].1 (Nat.le_trans hm.small (by decide))).2; rw [may_iff hm ⟨by omega, by omega⟩ (by omega) (by show (w.take k).length < 20; rw [List.length_take]; omega)] at hs; have e1 : List.replicate k ((1 : Int), ()) ++ [((1 : Int), ())] = List.replicate (k + 1) ((1 : Int), ()) := List.replicate_succ'.symm; have e2 : w.take k ++ [(w[k].1, ())] = w.take (k + 1) := by rw [List.take_succ_eq_append_getElem hk]
 have hs : impl_Say (newMat (ms[0]'(h.some_)).1 c ms w k).1 (newMat (ms[0]'(h.some_)).1 c ms w k).2.1 (newMat (ms[0]'(h.some_)).1 c ms w k).2.2.1 (newMat (ms[0]'(h.some_)).1 c ms w k).2.2.2.1 (newMat (ms[0]'(h.some_)).1 c ms w k).2.2.2.2.1 (newMat (ms[0]'(h.some_)).1 c ms w k).2.2.2.2.2.1 (newMat (ms[0]'(h.some_)).1 c ms w k).2.2.2.2.2.2.1 (newMat (ms[0]'(h.some_)).1 c ms w k).2.2.2.2.2.2.2.1 (newMat (ms[0]'(h.some_)).1 c ms w k).2.2.2.2.2.2.2.2.1 (newMat (ms[0]'(h.some_)).1 c ms w k).2.2.2.2.2.2.2.2.2.1 (newMat (ms[0]'(h.some_)).1 c ms w k).2.2.2.2.2.2.2.2.2.2.1 (newMat (ms[0]'(h.some_)).1 c ms w k).2.2.2.2.2.2.2.2.2.2.2.1 (newMat (ms[0]'(h.some_)).1 c ms w k).2.2.2.2.2.2.2.2.2.2.2.2.1 (newMat (ms[0]'(h.some_)).1 c ms w k).2.2.2.2.2.2.2.2.2.2.2.2.2.1 (newMat (ms[0]'(h.some_)).1 c ms w k).2.2.2.2.2.2.2.2.2.2.2.2.2.2.1 (newMat (ms[0]'(h.some_)).1 c ms w k).2.2.2.2.2.2.2.2.2.2.2.2.2.2.2.1 1 w[k].1 = some ((newMat (ms[0]'(h.some_)).1 c ms w (k + 1)).1, (newMat (ms[0]'(h.some_)).1 c ms w (k + 1)).2.1, (newMat (ms[0]'(h.some_)).1 c ms w (k + 1)).2.2.1, (newMat (ms[0]'(h.some_)).1 c ms w (k + 1)).2.2.2.1, (newMat (ms[0]'(h.some_)).1 c ms w (k + 1)).2.2.2.2.1, (newMat (ms[0]'(h.some_)).1 c ms w (k + 1)).2.2.2.2.2.1, (newMat (ms[0]'(h.some_)).1 c ms w (k + 1)).2.2.2.2.2.2.1, (newMat (ms[0]'(h.some_)).1 c ms w (k + 1)).2.2.2.2.2.2.2.1, (newMat (ms[0]'(h.some_)).1 c ms w (k + 1)).2.2.2.2.2.2.2.2.1, (newMat (ms[0]'(h.some_)).1 c ms w (k + 1)).2.2.2.2.2.2.2.2.2.1, (newMat (ms[0]'(h.some_)).1 c ms w (k + 1)).2.2.2.2.2.2.2.2.2.2.1, (newMat (ms[0]'(h.some_)).1 c ms w (k + 1)).2.2.2.2.2.2.2.2.2.2.2.1, (newMat (ms[0]'(h.some_)).1 c ms w (k + 1)).2.2.2.2.2.2.2.2.2.2.2.2.1, (newMat (ms[0]'(h.some_)).1 c ms w (k + 1)).2.2.2.2.2.2.2.2.2.2.2.2.2.1, (newMat (ms[0]'(h.some_)).1 c ms w (k + 1)).2.2.2.2.2.2.2.2.2.2.2.2.2.2.1, (newMat (ms[0]'(h.some_)).1 c ms w (k + 1)).2.2.2.2.2.2.2.2.2.2.2.2.2.2.2.1, true, ()) := by
   rw [hs]; show some ((ms[0]'(h.some_)).1, c, ms, [], List.replicate k ((1 : Int), ()) ++ [((1 : Int), ())], w.take k ++ [(w[k].1, ())], _) = _; rw [e1, e2]; rfl
 simp only [laws_FnSays_r0, laws_FnSays_c0, lt_nat_true hk, cond_true, dec_true (show ((k : Nat) : Int) < 9 by omega), zero_le_nat, toNat_nat, blt_true hk, List.getElem?_eq_getElem hk, Option.bind_some, hs, Bool.not_true, cond_false, succ_wrap (show k < 4611686018427387904 by omega)]
theorem says_r4 (w : TxtL) (m n : MatR) (ok : Bool) (nn : Int) (t nx : TokR) (got : TxtL) (i : Int) (said : ItemL) (hs : said.length ≤ 100) (hg : got.length ≤ 100) : loopV laws_FnSays_r4 (w, m.1, m.2.1, m.2.2.1, m.2.2.2.1, m.2.2.2.2.1, m.2.2.2.2.2.1, m.2.2.2.2.2.2.1, m.2.2.2.2.2.2.2.1, m.2.2.2.2.2.2.2.2.1, m.2.2.2.2.2.2.2.2.2.1, m.2.2.2.2.2.2.2.2.2.2.1, m.2.2.2.2.2.2.2.2.2.2.2.1, m.2.2.2.2.2.2.2.2.2.2.2.2.1, m.2.2.2.2.2.2.2.2.2.2.2.2.2.1, m.2.2.2.2.2.2.2.2.2.2.2.2.2.2.1, m.2.2.2.2.2.2.2.2.2.2.2.2.2.2.2.1, ok, nn, t.1, t.2.1, t.2.2.1, t.2.2.2.1, t.2.2.2.2.1, t.2.2.2.2.2.1, got, i, n.1, n.2.1, n.2.2.1, n.2.2.2.1, n.2.2.2.2.1, n.2.2.2.2.2.1, n.2.2.2.2.2.2.1, n.2.2.2.2.2.2.2.1, n.2.2.2.2.2.2.2.2.1, n.2.2.2.2.2.2.2.2.2.1, n.2.2.2.2.2.2.2.2.2.2.1, n.2.2.2.2.2.2.2.2.2.2.2.1, n.2.2.2.2.2.2.2.2.2.2.2.2.1, n.2.2.2.2.2.2.2.2.2.2.2.2.2.1, n.2.2.2.2.2.2.2.2.2.2.2.2.2.2.1, n.2.2.2.2.2.2.2.2.2.2.2.2.2.2.2.1, said, nx.1, nx.2.1, nx.2.2.1, nx.2.2.2.1, nx.2.2.2.2.1, nx.2.2.2.2.2.1, (0 : Int), ()) = some (.inl (w, m.1, m.2.1, m.2.2.1, m.2.2.2.1, m.2.2.2.2.1, m.2.2.2.2.2.1, m.2.2.2.2.2.2.1, m.2.2.2.2.2.2.2.1, m.2.2.2.2.2.2.2.2.1, m.2.2.2.2.2.2.2.2.2.1, m.2.2.2.2.2.2.2.2.2.2.1, m.2.2.2.2.2.2.2.2.2.2.2.1, m.2.2.2.2.2.2.2.2.2.2.2.2.1, m.2.2.2.2.2.2.2.2.2.2.2.2.2.1, m.2.2.2.2.2.2.2.2.2.2.2.2.2.2.1, m.2.2.2.2.2.2.2.2.2.2.2.2.2.2.2.1, ok, nn, t.1, t.2.1, t.2.2.1, t.2.2.2.1, t.2.2.2.2.1, t.2.2.2.2.2.1, got ++ said.map (fun x => (x.2.2.2.1, ())), i, n.1, n.2.1, n.2.2.1, n.2.2.2.1, n.2.2.2.2.1, n.2.2.2.2.2.1, n.2.2.2.2.2.2.1, n.2.2.2.2.2.2.2.1, n.2.2.2.2.2.2.2.2.1, n.2.2.2.2.2.2.2.2.2.1, n.2.2.2.2.2.2.2.2.2.2.1, n.2.2.2.2.2.2.2.2.2.2.2.1, n.2.2.2.2.2.2.2.2.2.2.2.2.1, n.2.2.2.2.2.2.2.2.2.2.2.2.2.1, n.2.2.2.2.2.2.2.2.2.2.2.2.2.2.1, n.2.2.2.2.2.2.2.2.2.2.2.2.2.2.2.1, nx.1, nx.2.1, nx.2.2.1, nx.2.2.2.1, nx.2.2.2.2.1, nx.2.2.2.2.2.1, ())) := by
 have := loop_run (round := laws_FnSays_r4) (e := .inl (w, m.1, m.2.1, m.2.2.1, m.2.2.2.1, m.2.2.2.2.1, m.2.2.2.2.2.1, m.2.2.2.2.2.2.1, m.2.2.2.2.2.2.2.1, m.2.2.2.2.2.2.2.2.1, m.2.2.2.2.2.2.2.2.2.1, m.2.2.2.2.2.2.2.2.2.2.1, m.2.2.2.2.2.2.2.2.2.2.2.1, m.2.2.2.2.2.2.2.2.2.2.2.2.1, m.2.2.2.2.2.2.2.2.2.2.2.2.2.1, m.2.2.2.2.2.2.2.2.2.2.2.2.2.2.1, m.2.2.2.2.2.2.2.2.2.2.2.2.2.2.2.1, ok, nn, t.1, t.2.1, t.2.2.1, t.2.2.2.1, t.2.2.2.2.1, t.2.2.2.2.2.1, got ++ said.map (fun x => (x.2.2.2.1, ())), i, n.1, n.2.1, n.2.2.1, n.2.2.2.1, n.2.2.2.2.1, n.2.2.2.2.2.1, n.2.2.2.2.2.2.1, n.2.2.2.2.2.2.2.1, n.2.2.2.2.2.2.2.2.1, n.2.2.2.2.2.2.2.2.2.1, n.2.2.2.2.2.2.2.2.2.2.1, n.2.2.2.2.2.2.2.2.2.2.2.1, n.2.2.2.2.2.2.2.2.2.2.2.2.1, n.2.2.2.2.2.2.2.2.2.2.2.2.2.1, n.2.2.2.2.2.2.2.2.2.2.2.2.2.2.1, n.2.2.2.2.2.2.2.2.2.2.2.2.2.2.2.1, nx.1, nx.2.1, nx.2.2.1, nx.2.2.2.1, nx.2.2.2.2.1, nx.2.2.2.2.2.1, ())) said.length (fun k => (w, m.1, m.2.1, m.2.2.1, m.2.2.2.1, m.2.2.2.2.1, m.2.2.2.2.2.1, m.2.2.2.2.2.2.1, m.2.2.2.2.2.2.2.1, m.2.2.2.2.2.2.2.2.1, m.2.2.2.2.2.2.2.2.2.1, m.2.2.2.2.2.2.2.2.2.2.1, m.2.2.2.2.2.2.2.2.2.2.2.1, m.2.2.2.2.2.2.2.2.2.2.2.2.1, m.2.2.2.2.2.2.2.2.2.2.2.2.2.1, m.2.2.2.2.2.2.2.2.2.2.2.2.2.2.1, m.2.2.2.2.2.2.2.2.2.2.2.2.2.2.2.1, ok, nn, t.1, t.2.1, t.2.2.1, t.2.2.2.1, t.2.2.2.2.1, t.2.2.2.2.2.1, got ++ (said.take k).map (fun x => (x.2.2.2.1, ())), i, n.1, n.2.1, n.2.2.1, n.2.2.2.1, n.2.2.2.2.1, n.2.2.2.2.2.1, n.2.2.2.2.2.2.1, n.2.2.2.2.2.2.2.1, n.2.2.2.2.2.2.2.2.1, n.2.2.2.2.2.2.2.2.2.1, n.2.2.2.2.2.2.2.2.2.2.1, n.2.2.2.2.2.2.2.2.2.2.2.1, n.2.2.2.2.2.2.2.2.2.2.2.2.1, n.2.2.2.2.2.2.2.2.2.2.2.2.2.1, n.2.2.2.2.2.2.2.2.2.2.2.2.2.2.1, n.2.2.2.2.2.2.2.2.2.2.2.2.2.2.2.1, said, nx.1, nx.2.1, nx.2.2.1, nx.2.2.2.1, nx.2.2.2.2.1, nx.2.2.2.2.2.1, ((k : Nat) : Int), ())) (by
   simp only [laws_FnSays_r4, laws_FnSays_c4, lt_nat_irr, cond_false, List.take_length]) (fun k hk => by
   have hl : (got ++ (said.take k).map (fun x : ItemR => (x.2.2.2.1, ()))).length ≤ 200 := by simp; omega
   simp only [laws_FnSays_r4, laws_FnSays_c4, lt_nat_true hk, cond_true, zero_le_nat, toNat_nat, blt_true hk, List.getElem?_eq_getElem hk, Option.bind_some, ble_true (show ((got ++ (said.take k).map (fun x : ItemR => (x.2.2.2.1, ()))).length + 1) * 16 ≤ lim by unfold lim; omega), succ_wrap (show k < 4611686018427387904 by omega)]; rw [List.take_succ_eq_append_getElem hk, List.map_append, List.append_assoc]; rfl)
 simp only [List.take_zero, List.map_nil, List.append_nil] at this; exact this
structure SaysI (d c : Int) (w : TxtL) (j : Nat) (m : MatR) (t : TokR) (got : TxtL) : Prop where
 mq : MatQ m
 tq : TokQ t
 ids : m.1 = d ∧ m.2.1 = c ∧ t.1 = c
 rnd : m.2.2.2.2.2.2.1 = ((j : Nat) : Int) ∧ t.2.1 = ((j + 1 : Nat) : Int)
 said : got = w.take (3 * j) ∧ m.2.2.2.2.2.1 = w.drop (3 * j)
 lev : ∀ x ∈ m.2.2.2.2.1, x.1 = 1
 items : FromOne m.2.2.2.1 ∧ m.2.2.2.1.length = min (3 * j) w.length ∧ ∀ x ∈ m.2.2.2.1, x.2.2.1 = 1
 tok : t.2.2.1 = ((min (3 * j) w.length : Nat) : Int) ∧ t.2.2.2.1 = t.2.2.1 ∧ t.2.2.2.2.1 = 0 ∧ t.2.2.2.2.2.1 = []
 heard : m.2.2.2.2.2.2.2.2.2.1 = 0
theorem says_step {d c : Int} {w : TxtL} (hw : w.length ≤ 8) {j : Nat} (hj : j < 4) {m : MatR} {t : TokR} {got : TxtL} (h : SaysI d c w j m t got) : ∃ (n : MatR) (said : ItemL) (nx : TokR), impl_Hold m.1 m.2.1 m.2.2.1 m.2.2.2.1 m.2.2.2.2.1 m.2.2.2.2.2.1 m.2.2.2.2.2.2.1 m.2.2.2.2.2.2.2.1 m.2.2.2.2.2.2.2.2.1 m.2.2.2.2.2.2.2.2.2.1 m.2.2.2.2.2.2.2.2.2.2.1 m.2.2.2.2.2.2.2.2.2.2.2.1 m.2.2.2.2.2.2.2.2.2.2.2.2.1 m.2.2.2.2.2.2.2.2.2.2.2.2.2.1 m.2.2.2.2.2.2.2.2.2.2.2.2.2.2.1 m.2.2.2.2.2.2.2.2.2.2.2.2.2.2.2.1 t.1 t.2.1 t.2.2.1 t.2.2.2.1 t.2.2.2.2.1 t.2.2.2.2.2.1 = some (n.1, n.2.1, n.2.2.1, n.2.2.2.1, n.2.2.2.2.1, n.2.2.2.2.2.1, n.2.2.2.2.2.2.1, n.2.2.2.2.2.2.2.1, n.2.2.2.2.2.2.2.2.1, n.2.2.2.2.2.2.2.2.2.1, n.2.2.2.2.2.2.2.2.2.2.1, n.2.2.2.2.2.2.2.2.2.2.2.1, n.2.2.2.2.2.2.2.2.2.2.2.2.1, n.2.2.2.2.2.2.2.2.2.2.2.2.2.1, n.2.2.2.2.2.2.2.2.2.2.2.2.2.2.1, n.2.2.2.2.2.2.2.2.2.2.2.2.2.2.2.1, said, nx.1, nx.2.1, nx.2.2.1, nx.2.2.2.1, nx.2.2.2.2.1, nx.2.2.2.2.2.1, true, ()) ∧ said.length ≤ 3 ∧ got.length ≤ 100 ∧ SaysI d c w (j + 1) n nx (got ++ said.map (fun x => (x.2.2.2.1, ()))) := by
 obtain ⟨r1, r2⟩ := h.rnd; obtain ⟨i1, i2, i3⟩ := h.ids; obtain ⟨t1, t2, t3, t4⟩ := h.tok; obtain ⟨s1, s2⟩ := h.said; obtain ⟨x1, x2, x3⟩ := h.items; obtain ⟨n, said, k, nx, hh, c2, _⟩ := hold_ok m t h.mq h.tq (i3.trans i2.symm) (by omega) (by omega); have hk : k = min 3 (w.drop (3 * j)).length := by
   rcases hh.most with e | e
   · rw [e, s2]
   · have := hh.few.1; omega
 rw [List.length_drop] at hk; have hlen : m.2.2.2.2.1.length = w.length - 3 * j := by rw [h.mq.texts.2, s2, List.length_drop]
 have hgive : giveL t m.2.2.2.1 = [] := by
   unfold giveL; rw [t4, List.filter_eq_nil_iff]; intro r _; simp [intsOf]
 have hsaid : said = numItems t.2.2.1 m.1 m.2.2.2.2.1 m.2.2.2.2.2.1 k := by rw [hh.said, hgive]; rfl
 have hF : ∀ f ∈ numItems t.2.2.1 m.1 m.2.2.2.2.1 m.2.2.2.2.2.1 k, f.2.2.1 = 1 ∧ t.2.2.1 < f.1 := by
   intro f hf; obtain ⟨q, hq, rfl⟩ := numItems_mem hf; refine ⟨?_, by show t.2.2.1 < t.2.2.1 + ((q + 1 : Nat) : Int); omega⟩; have hq2 : q < m.2.2.2.2.1.length := by omega
   have : (m.2.2.2.2.1.getD q ((0 : Int), ())).1 = 1 := by
     rw [List.getD_eq_getElem?_getD, List.getElem?_eq_getElem hq2, Option.getD_some]; exact h.lev _ (List.getElem_mem hq2)
   show (bif decide (q < m.2.2.2.2.1.length) && decide ((m.2.2.2.2.1.getD q ((0 : Int), ())).1 = 2) then (2 : Int) else 1) = 1; rw [this]
   cases decide (q < m.2.2.2.2.1.length) <;> rfl
 have hput : n.2.2.2.1 = m.2.2.2.1 ++ numItems t.2.2.1 m.1 m.2.2.2.2.1 m.2.2.2.2.2.1 k := by
   rw [hh.items]; refine putAll_end _ (fun f hf x hx => ?_) (numItems_pair k); obtain ⟨q, hq, rfl⟩ := List.mem_iff_getElem.1 hx; have := x1 q hq; have := (hF f hf).2; omega
 have hfl := numItems_len t.2.2.1 m.1 m.2.2.2.2.1 m.2.2.2.2.2.1 k; have hnl : n.2.2.2.1.length = min (3 * (j + 1)) w.length := by rw [hput, List.length_append, hfl]; omega
 have hfrom : FromOne n.2.2.2.1 := by
   intro q hq; have hq' : q < (m.2.2.2.1 ++ numItems t.2.2.1 m.1 m.2.2.2.2.1 m.2.2.2.2.2.1 k).length := by rw [← hput]; exact hq
   have : n.2.2.2.1[q] = (m.2.2.2.1 ++ numItems t.2.2.1 m.1 m.2.2.2.2.1 m.2.2.2.2.2.1 k)[q] := by congr 1
   rw [this]
   by_cases e : q < m.2.2.2.1.length
   · rw [List.getElem_append_left e]; exact x1 q e
   · rw [List.getElem_append_right (by omega), numItems_get]; show t.2.2.1 + ((q - m.2.2.2.1.length + 1 : Nat) : Int) = _; omega
 have hi60 := (items_small _ hh.nq.items).1; have haru : aruOf n.2.2.2.1 = min (3 * (j + 1)) w.length := by rw [from_aru hfrom (by omega), hnl]
 have hseq : t.2.2.1 + ((k : Nat) : Int) = ((min (3 * (j + 1)) w.length : Nat) : Int) := by omega
 have hmk := hh.marks; rw [if_pos ⟨t2, t3⟩, t3, hseq, haru] at hmk; have hd := h.mq.id; have hmA : nx.2.2.2.1 = ((min (3 * (j + 1)) w.length : Nat) : Int) := by
   rw [hmk.1]; unfold markA; rw [if_neg (by omega), if_neg (by omega)]
 have hmB : nx.2.2.2.2.1 = 0 := by
   rw [hmk.2]; unfold markB; rw [if_neg (by omega), if_neg (by omega)]
 have hnx := hh.next; have hwant : nx.2.2.2.2.2.1 = [] := by
   have hq := hh.tq.2.2.2.2.2.2
   cases hx : nx.2.2.2.2.2.1 with
   | nil => rfl
   | cons a l =>
     exfalso
     rw [hx] at hq; have q0 := hq 0 (by simp) (by simp); have q1 : 1 ≤ a.1 := q0.1; have q2 : a.1 ≤ nx.2.2.1 := q0.2.1; have h1 := hh.lacks a.1 (by rw [hx]; simp [intsOf]); rw [from_has hfrom q1 (by omega)] at h1
     cases h1
 have hsl : said.length ≤ 3 := by rw [hsaid, hfl]; exact hh.few.1
 have hdrop : n.2.2.2.2.2.1 = w.drop (3 * (j + 1)) := by
   rw [hh.words.2, s2, List.drop_drop, hk]
   by_cases e : 3 ≤ w.length - 3 * j
   · congr 1; omega
   · rw [List.drop_of_length_le (by omega), List.drop_of_length_le (by omega)]
 refine ⟨n, said, nx, ?_, hsl, by rw [s1, List.length_take]; omega, {
   mq := hh.nq
   tq := hh.tq
   ids := ⟨hh.id.1.trans i1, hh.id.2.1.trans i2, hnx.1.trans i3⟩
   rnd := ⟨by rw [hh.round.1, r2], by rw [hnx.2.1, r2]; omega⟩
   said := ⟨?_, hdrop⟩
   lev := fun x hx => h.lev x (List.mem_of_mem_drop (by rw [hh.words.1] at hx; exact hx))
   items := ⟨hfrom, hnl, fun x hx => ?_⟩
   tok := ⟨by rw [hnx.2.2, hseq], by rw [hmA, hnx.2.2, hseq], hmB, hwant⟩
   heard := hh.round.2.2.2.trans h.heard }⟩
 · unfold impl_Hold; rw [c2]; rfl
 · rw [hsaid, s1]; apply List.ext_getElem
   · rw [List.length_append, List.length_map, hfl, List.length_take, List.length_take]; omega
   · intro q g1 g2; rw [List.length_take] at g2
     by_cases e : q < (w.take (3 * j)).length
     · rw [List.getElem_append_left e, List.getElem_take, List.getElem_take]
     · rw [List.getElem_append_right (by omega), List.getElem_map, numItems_get, List.getElem_take]; rw [List.length_take] at e; show ((m.2.2.2.2.2.1.getD (q - (w.take (3 * j)).length) (ByteArray.empty, ())).1, ()) = w[q]; rw [s2, List.getD_eq_getElem?_getD, List.getElem?_drop, List.length_take, show 3 * j + (q - min (3 * j) w.length) = q by omega, List.getElem?_eq_getElem (by omega), Option.getD_some]
 · rw [hput] at hx; rcases List.mem_append.1 hx with hx | hx
   · exact x3 x hx
   · exact (hF x hx).1
theorem says_r2 {d c : Int} {w : TxtL} (hw : w.length ≤ 8) (ok : Bool) (nn : Int) {m : MatR} {t : TokR} (h : SaysI d c w 0 m t []) : ∃ (n : MatR) (nx : TokR), loopV laws_FnSays_r2 (w, m.1, m.2.1, m.2.2.1, m.2.2.2.1, m.2.2.2.2.1, m.2.2.2.2.2.1, m.2.2.2.2.2.2.1, m.2.2.2.2.2.2.2.1, m.2.2.2.2.2.2.2.2.1, m.2.2.2.2.2.2.2.2.2.1, m.2.2.2.2.2.2.2.2.2.2.1, m.2.2.2.2.2.2.2.2.2.2.2.1, m.2.2.2.2.2.2.2.2.2.2.2.2.1, m.2.2.2.2.2.2.2.2.2.2.2.2.2.1, m.2.2.2.2.2.2.2.2.2.2.2.2.2.2.1, m.2.2.2.2.2.2.2.2.2.2.2.2.2.2.2.1, ok, nn, t.1, t.2.1, t.2.2.1, t.2.2.2.1, t.2.2.2.2.1, t.2.2.2.2.2.1, [], (0 : Int), ()) = some (.inl (w, n.1, n.2.1, n.2.2.1, n.2.2.2.1, n.2.2.2.2.1, n.2.2.2.2.2.1, n.2.2.2.2.2.2.1, n.2.2.2.2.2.2.2.1, n.2.2.2.2.2.2.2.2.1, n.2.2.2.2.2.2.2.2.2.1, n.2.2.2.2.2.2.2.2.2.2.1, n.2.2.2.2.2.2.2.2.2.2.2.1, n.2.2.2.2.2.2.2.2.2.2.2.2.1, n.2.2.2.2.2.2.2.2.2.2.2.2.2.1, n.2.2.2.2.2.2.2.2.2.2.2.2.2.2.1, n.2.2.2.2.2.2.2.2.2.2.2.2.2.2.2.1, ok, nn, w, ())) ∧ SaysI d c w 4 n nx w := by
 obtain ⟨e, he, hq⟩ := loop_inv (round := laws_FnSays_r2) (x := (w, m.1, m.2.1, m.2.2.1, m.2.2.2.1, m.2.2.2.2.1, m.2.2.2.2.2.1, m.2.2.2.2.2.2.1, m.2.2.2.2.2.2.2.1, m.2.2.2.2.2.2.2.2.1, m.2.2.2.2.2.2.2.2.2.1, m.2.2.2.2.2.2.2.2.2.2.1, m.2.2.2.2.2.2.2.2.2.2.2.1, m.2.2.2.2.2.2.2.2.2.2.2.2.1, m.2.2.2.2.2.2.2.2.2.2.2.2.2.1, m.2.2.2.2.2.2.2.2.2.2.2.2.2.2.1, m.2.2.2.2.2.2.2.2.2.2.2.2.2.2.2.1, ok, nn, t.1, t.2.1, t.2.2.1, t.2.2.2.1, t.2.2.2.2.1, t.2.2.2.2.2.1, [], ((0 : Nat) : Int), ())) 4 (fun j x => ∃ (n : MatR) (nx : TokR) (got : TxtL), x = (w, n.1, n.2.1, n.2.2.1, n.2.2.2.1, n.2.2.2.2.1, n.2.2.2.2.2.1, n.2.2.2.2.2.2.1, n.2.2.2.2.2.2.2.1, n.2.2.2.2.2.2.2.2.1, n.2.2.2.2.2.2.2.2.2.1, n.2.2.2.2.2.2.2.2.2.2.1, n.2.2.2.2.2.2.2.2.2.2.2.1, n.2.2.2.2.2.2.2.2.2.2.2.2.1, n.2.2.2.2.2.2.2.2.2.2.2.2.2.1, n.2.2.2.2.2.2.2.2.2.2.2.2.2.2.1, n.2.2.2.2.2.2.2.2.2.2.2.2.2.2.2.1, ok, nn, nx.1, nx.2.1, nx.2.2.1, nx.2.2.2.1, nx.2.2.2.2.1, nx.2.2.2.2.2.1, got, ((j : Nat) : Int), ()) ∧ SaysI d c w j n nx got)
   (fun e => ∃ (n : MatR) (nx : TokR), e = .inl (w, n.1, n.2.1, n.2.2.1, n.2.2.2.1, n.2.2.2.2.1, n.2.2.2.2.2.1, n.2.2.2.2.2.2.1, n.2.2.2.2.2.2.2.1, n.2.2.2.2.2.2.2.2.1, n.2.2.2.2.2.2.2.2.2.1, n.2.2.2.2.2.2.2.2.2.2.1, n.2.2.2.2.2.2.2.2.2.2.2.1, n.2.2.2.2.2.2.2.2.2.2.2.2.1, n.2.2.2.2.2.2.2.2.2.2.2.2.2.1, n.2.2.2.2.2.2.2.2.2.2.2.2.2.2.1, n.2.2.2.2.2.2.2.2.2.2.2.2.2.2.2.1, ok, nn, w, ()) ∧ SaysI d c w 4 n nx w) (by
     rintro x ⟨n, nx, got, rfl, hI⟩
     have hg : got = w := by rw [hI.said.1, List.take_of_length_le (by omega)]
     subst hg; exact ⟨_, by simp only [laws_FnSays_r2, laws_FnSays_c2, dec_false (show ¬ ((4 : Nat) : Int) < 4 by omega), cond_false], n, nx, rfl, hI⟩) (by
     rintro j x hj ⟨m, t, got, rfl, hI⟩
     obtain ⟨n, said, nx, h1, h2, h3, h4⟩ := says_step hw hj hI; refine .inr ⟨_, ?_, n, nx, _, rfl, h4⟩; simp only [laws_FnSays_r2, laws_FnSays_c2, dec_true (show ((j : Nat) : Int) < 4 by omega), cond_true, h1, Option.bind_some, Bool.not_true, cond_false, dec_false (show ¬ (3 : Int) < ((said.length : Nat) : Int) by omega), says_r4 w m n ok nn t nx got ((j : Nat) : Int) said (by omega) h3, outK_inl, succ_wrap (show j < 4611686018427387904 by omega)]) ⟨m, t, [], rfl, h⟩
 obtain ⟨n, nx, rfl, hI⟩ := hq; exact ⟨n, nx, he, hI⟩
theorem says_law (code : List (Int × Unit)) : laws_FnSays code = some (true, ()) := by
 unfold laws_FnSays laws_big
 by_cases hb : (1048576 : Int) < ((List.length code : Nat) : Int)
 · rw [dec_true hb]; rfl
 rw [dec_false hb]; obtain ⟨c, ms, e1, hr, _, _⟩ := drawring_ok code (by omega); obtain ⟨w, e2, hw, hx⟩ := drawtexts_ok code (by omega); have h0 : 0 < ms.length := hr.some_; have hl := hr.len; have hin : slices_Contains_int ms ms[0].1 = some (true, ()) := by
   rw [contains_val _ _ (by omega), dec_true (by unfold intsOf; exact List.mem_map.2 ⟨ms[0], List.getElem_mem h0, rfl⟩)]
 have hok := ringok_true hr; have hnew : impl_MateNew ms[0].1 c ms = some ((newMat ms[0].1 c ms w 0).1, (newMat ms[0].1 c ms w 0).2.1, (newMat ms[0].1 c ms w 0).2.2.1, (newMat ms[0].1 c ms w 0).2.2.2.1, (newMat ms[0].1 c ms w 0).2.2.2.2.1, (newMat ms[0].1 c ms w 0).2.2.2.2.2.1, (newMat ms[0].1 c ms w 0).2.2.2.2.2.2.1, (newMat ms[0].1 c ms w 0).2.2.2.2.2.2.2.1, (newMat ms[0].1 c ms w 0).2.2.2.2.2.2.2.2.1, (newMat ms[0].1 c ms w 0).2.2.2.2.2.2.2.2.2.1, (newMat ms[0].1 c ms w 0).2.2.2.2.2.2.2.2.2.2.1, (newMat ms[0].1 c ms w 0).2.2.2.2.2.2.2.2.2.2.2.1, (newMat ms[0].1 c ms w 0).2.2.2.2.2.2.2.2.2.2.2.2.1, (newMat ms[0].1 c ms w 0).2.2.2.2.2.2.2.2.2.2.2.2.2.1, (newMat ms[0].1 c ms w 0).2.2.2.2.2.2.2.2.2.2.2.2.2.2.1, (newMat ms[0].1 c ms w 0).2.2.2.2.2.2.2.2.2.2.2.2.2.2.2.1, true, ()) := by
   unfold impl_MateNew; simp only [hin, hok, Option.bind_some, Bool.not_true, cond_false, copyRing_impl c ms (by omega)]; rfl
 have hfirst : impl_FirstToken c ms = some (c, (1 : Int), (0 : Int), (0 : Int), (0 : Int), [], ()) := by
   unfold impl_FirstToken; simp only [hok, Option.bind_some, Bool.not_true, cond_false]
 have hm := newMat_ok hr hw hx (i := w.length) (Nat.le_refl _); have hI : SaysI ms[0].1 c w 0 (newMat ms[0].1 c ms w w.length) (c, (1 : Int), (0 : Int), (0 : Int), (0 : Int), [], ()) [] := {
   mq := hm
   tq := ⟨⟨hr.id1, hr.id2⟩, ⟨by show (1 : Int) ≤ 1; omega, by show (1 : Int) ≤ 1000000000; omega⟩, ⟨by show (0 : Int) ≤ 0; omega, by show (0 : Int) ≤ 60; omega⟩, ⟨by show (0 : Int) ≤ 0; omega, by show (0 : Int) ≤ 0; omega⟩, ⟨by show (0 : Int) ≤ 0; omega, by show (0 : Int) ≤ 5; omega⟩, Nat.zero_le _, fun k hk => by cases hk⟩
   ids := ⟨rfl, rfl, rfl⟩
   rnd := ⟨rfl, rfl⟩
   said := ⟨by simp, by show w.take w.length = w.drop (3 * 0); simp⟩
   lev := fun x hx => (List.eq_of_mem_replicate (show x ∈ List.replicate w.length ((1 : Int), ()) from hx)) ▸ rfl
   items := ⟨(fun k hk => by cases hk), (by show ([] : ItemL).length = _; simp), (fun x hx => by cases hx)⟩
   tok := ⟨by show (0 : Int) = _; simp, rfl, rfl, rfl⟩
   heard := rfl }
 obtain ⟨n, nx, hl2, h4⟩ := says_r2 hw true ((w.length : Nat) : Int) hI; obtain ⟨k, n', e3, g1, _, g2, g3, g4, g5⟩ := hear_ok h4.mq; have hfr := h4.items.1; have hn60 := (items_small _ h4.mq.items).1; have haru : aruOf n.2.2.2.1 = w.length := by rw [from_aru hfr (by omega), h4.items.2.1]; omega
 have hk : k = w.length := by
   rw [haru] at g3 g5; have h9 := h4.heard
   by_cases e : k < w.length
   · exfalso
     obtain ⟨q1, _⟩ := g5 (by omega); have hlt : k < n.2.2.2.1.length := by rw [h4.items.2.1]; omega
     have : (itemAt n.2.2.2.1 (n.2.2.2.2.2.2.2.2.2.1 + ((k + 1 : Nat) : Int))).isSome = true := by
       unfold itemAt; rw [List.find?_isSome]; exact ⟨n.2.2.2.1[k], List.getElem_mem hlt, by rw [decide_eq_true_eq, hfr k hlt, h4.heard]; omega⟩
     obtain ⟨r, hr'⟩ := Option.isSome_iff_exists.1 this; have e2 : (heardAt n.2.2.2.1 (n.2.2.2.2.2.2.2.2.2.1 + ((k + 1 : Nat) : Int))).2.2.1 = r.2.2.1 := by unfold heardAt; rw [hr']; rfl
     rw [e2, h4.items.2.2 r (itemAt_mem hr').1] at q1; omega
   · omega
 have hq := (mat_ok _ (Nat.le_trans g2.small (by decide))).2.1; rw [(mat_ok _ (Nat.le_trans g2.small (by decide))).2.2.2 g2] at hq; have hlist : (heardL n.2.2.2.1 n.2.2.2.2.2.2.2.2.2.1 k).length = w.length := by rw [heardL_len, hk]
 have htx : n.2.2.2.2.2.1 = [] := by rw [h4.said.2, List.drop_eq_nil_iff]; omega
 simp only [Option.bind_some, cond_false, e1, e2, blt_true h0, cond_true, List.getElem?_eq_getElem h0, hnew, says_r0 hr hw hx true, outK_inl, hfirst, hl2, g1, zero_le_nat, dec_true (show ((w.length : Nat) : Int) ≤ ((List.length w : Nat) : Int) by omega), toNat_nat, List.drop_zero, List.take_length, sameT_self w (by omega), hlist, decide_true, hq]; rw [htx]; rfl
end Go.TM
