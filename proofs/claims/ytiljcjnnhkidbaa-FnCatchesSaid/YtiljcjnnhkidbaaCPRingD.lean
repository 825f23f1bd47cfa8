/- A ring's life, drawn and played by the reference. -/
import Derived.Test.YtiljcjnnhkidbaaCPRingL
set_option linter.unusedSimpArgs false
set_option linter.unusedVariables false
namespace Go.TM
open Go
theorem kinds_mem {v : Int} (h : (v, ()) ∈ [((1 : Int), ()), (1, ()), (1, ()), (2, ()), (2, ()), (2, ()), (2, ()), (2, ()), (2, ()), (3, ()), (3, ()), (4, ()), (5, ()), (6, ()), (7, ()), (7, ())]) : 1 ≤ v ∧ v ≤ 7 := by
 simp only [List.mem_cons, Prod.mk.injEq, and_true, List.not_mem_nil, or_false] at h; omega
theorem name_ok (code : List (Int × Unit)) (at_ seed : Int) (h : DrawAt code at_) : ∃ v at' s', spec_l03Name code at_ seed = some (v, code, at', s', ()) ∧ ByteArray.size v ≤ 3 ∧ DrawAt code at' := by
 obtain ⟨v, a1, s1, e1, hv, d1⟩ := pickS_ok code at_ seed [((ByteArray.mk #[97, 110, 110]), ()), ((ByteArray.mk #[98, 111, 98]), ()), ((ByteArray.mk #[99, 121]), ()), ((ByteArray.mk #[100, 52]), ()), ((ByteArray.mk #[101, 118, 101]), ())] h (by decide); refine ⟨v, a1, s1, ?_, ?_, d1⟩
 · unfold spec_l03Name; rw [e1]; rfl
 · simp only [List.mem_cons, Prod.mk.injEq, and_true, List.not_mem_nil, or_false] at hv; rcases hv with rfl | rfl | rfl | rfl | rfl <;> decide
theorem evt_tail (code : List (Int × Unit)) {n : Nat} {c : Int} {ms : MemL} {w : WorkR} (h : WorkQ n c ms w) (hn : n ≤ 1000) {v id b : Int} (hv : 1 ≤ v ∧ v ≤ 7) (hid : (id, ()) ∈ ms) (hb : 0 ≤ b) (a s : Int) (d : DrawAt code a) :
   ∃ (e : EvtR) (a' s' : Int), spec_l11Next_s0 code a s w.1 w.2.1 w.2.2.1 w.2.2.2.1 w.2.2.2.2.1 w.2.2.2.2.2.1 0 0 0 0 ByteArray.empty v id b 0 ByteArray.empty = some (e.1, e.2.1, e.2.2.1, e.2.2.2.1, e.2.2.2.2.1, code, a', s', w.1, w.2.1, w.2.2.1, w.2.2.2.1, w.2.2.2.2.1, w.2.2.2.2.2.1, ()) ∧ EvtQ ms e ∧ DrawAt code a' := by
 have hf := h.few; unfold spec_l11Next_s0
 by_cases k2 : v = 2
 · obtain ⟨e, he, a', s', b', rfl, d', hb'⟩ := loop_inv (round := spec_l11Next_r0) (x := (code, a, s, w.1, w.2.1, w.2.2.1, w.2.2.2.1, w.2.2.2.2.1, w.2.2.2.2.2.1, (0 : Int), (0 : Int), (0 : Int), (0 : Int), ByteArray.empty, v, id, b, (0 : Int), ByteArray.empty, ((0 : Nat) : Int), ())) w.2.2.2.1.length
     (fun k x => ∃ a s b, x = (code, a, s, w.1, w.2.1, w.2.2.1, w.2.2.2.1, w.2.2.2.2.1, w.2.2.2.2.2.1, (0 : Int), (0 : Int), (0 : Int), (0 : Int), ByteArray.empty, v, id, b, (0 : Int), ByteArray.empty, ((k : Nat) : Int), ()) ∧ DrawAt code a ∧ 0 ≤ b)
     (fun e => ∃ a s b, e = .inl (code, a, s, w.1, w.2.1, w.2.2.1, w.2.2.2.1, w.2.2.2.2.1, w.2.2.2.2.2.1, (0 : Int), (0 : Int), (0 : Int), (0 : Int), ByteArray.empty, v, id, b, (0 : Int), ByteArray.empty, ()) ∧ DrawAt code a ∧ 0 ≤ b) (by
       rintro x ⟨a, s, b, rfl, d, hb⟩
       exact ⟨_, by simp only [spec_l11Next_r0, spec_l11Next_c0, lt_nat_irr, cond_false], a, s, b, rfl, d, hb⟩) (by
       rintro k x hk ⟨a, s, b, rfl, d, hb⟩
       simp only [spec_l11Next_r0, spec_l11Next_c0, lt_nat_true hk, zero_le_nat, cond_true, toNat_nat, List.getElem?_eq_getElem hk, Option.bind_some, succ_wrap (show k < 4611686018427387904 by omega)]
       cases (w.2.2.2.1[k]).2.1
       · exact .inr ⟨_, rfl, a, s, b, rfl, d, hb⟩
       · obtain ⟨o, a1, s1, e1, d1⟩ := once_ok code a s 4 d (by omega); simp only [e1, Option.bind_some, cond_true]
         cases o
         · exact .inr ⟨_, rfl, a1, s1, ((k : Nat) : Int), rfl, d1, by omega⟩
         · exact .inr ⟨_, rfl, a1, s1, b, rfl, d1, hb⟩) ⟨a, s, b, rfl, d, hb⟩
   have he : loopV spec_l11Next_r0 (code, a, s, w.1, w.2.1, w.2.2.1, w.2.2.2.1, w.2.2.2.2.1, w.2.2.2.2.2.1, (0 : Int), (0 : Int), (0 : Int), (0 : Int), ByteArray.empty, v, id, b, (0 : Int), ByteArray.empty, (0 : Int), ()) = _ := he; refine ⟨(v, id, b', 0, ByteArray.empty, ()), a', s', ?_, ⟨hv, hid, hb', fun h1 => ?_, fun _ => ⟨rfl, rfl⟩⟩, d'⟩
   · simp only [dec_true k2, cond_true, he, outK, Option.bind_some, dec_false (show ¬ v = 1 by omega), cond_false]
   · have h1 : v = 1 := h1; omega
 by_cases k1 : v = 1
 · obtain ⟨l, a1, s1, e1, l0, l1, d1⟩ := below_ok code a s 2 d (by omega); obtain ⟨t, a2, s2, e2, ht, d2⟩ := name_ok code a1 s1 d1; refine ⟨(v, id, b, 1 + l, t, ()), a2, s2, ?_, ⟨hv, hid, hb, fun _ => ⟨by show 1 ≤ 1 + l ∧ 1 + l ≤ 2; omega, by show ByteArray.size t ≤ 60; omega⟩, fun h1 => absurd k1 h1⟩, d2⟩; simp only [dec_false k2, dec_true k1, cond_false, cond_true, e1, e2, Option.bind_some]; rw [wrap_id (show -9223372036854775808 ≤ 1 + l by omega) (by omega)]
 · refine ⟨(v, id, b, 0, ByteArray.empty, ()), a, s, ?_, ⟨hv, hid, hb, fun h1 => absurd h1 k1, fun _ => ⟨rfl, rfl⟩⟩, d⟩; simp only [dec_false k2, dec_false k1, cond_false]
theorem evt_ok (code : List (Int × Unit)) (a s : Int) (d : DrawAt code a) {n : Nat} {c : Int} {ms : MemL} {w : WorkR} (h : WorkQ n c ms w) (hn : n ≤ 1000) :
   ∃ (e : EvtR) (a' s' : Int), spec_l11Next code a s w.1 w.2.1 w.2.2.1 w.2.2.2.1 w.2.2.2.2.1 w.2.2.2.2.2.1 = some (e.1, e.2.1, e.2.2.1, e.2.2.2.1, e.2.2.2.2.1, code, a', s', w.1, w.2.1, w.2.2.1, w.2.2.2.1, w.2.2.2.2.1, w.2.2.2.2.2.1, ()) ∧ EvtQ ms e ∧ DrawAt code a' := by
 obtain ⟨q0, q1, q2⟩ := h.five; have hr := h.ring.2.1.1; have hms := h.self.2; obtain ⟨v, a1, s1, e1, hv, d1⟩ := pick_ok code a s [((1 : Int), ()), (1, ()), (1, ()), (2, ()), (2, ()), (2, ()), (2, ()), (2, ()), (2, ()), (3, ()), (3, ()), (4, ()), (5, ()), (6, ()), (7, ()), (7, ())] d (by decide); obtain ⟨i, a2, s2, e2, i0, i1, d2⟩ := below_ok code a1 s1 ((List.length w.2.1 : Nat) : Int) d1 (by rw [hms]; omega); obtain ⟨b, a3, s3, e3, b0, b1, d3⟩ := below_ok code a2 s2 30 d2 (by omega); obtain ⟨i, rfl⟩ := Int.eq_ofNat_of_zero_le i0; have hi : i < w.2.1.length := by omega
 obtain ⟨e, a', s', e4, he, d'⟩ := evt_tail code h hn (kinds_mem hv) (show ((w.2.1[i]).1, ()) ∈ ms by rw [← hms]; exact List.getElem_mem hi) b0 a3 s3 d3; refine ⟨e, a', s', ?_, he, d'⟩; unfold spec_l11Next; simp only [e1, e2, e3, Option.bind_some, zero_le_nat, cond_true, toNat_nat, List.getElem?_eq_getElem hi, both_self]; exact e4
end Go.TM
