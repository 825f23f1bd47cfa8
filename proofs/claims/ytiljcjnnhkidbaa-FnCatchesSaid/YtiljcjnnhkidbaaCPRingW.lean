/- A ring's life, drawn and played by the reference: the whole. -/
import Derived.Test.YtiljcjnnhkidbaaCPRingD
set_option linter.unusedSimpArgs false
set_option linter.unusedVariables false
namespace Go.TM
open Go
theorem ringP_of' {c : Int} {ms : MemL} (h : RingV c ms) : RingP c ms := ⟨⟨h.id1, h.id2⟩, ⟨h.some_, h.len⟩, fun k hk _ => ⟨by have := h.rising.2.1 k hk; omega, fun h0 => h.rising.2.2 (k - 1) k (by omega) hk (by omega)⟩⟩
theorem mateNew_ok {c : Int} {ms : MemL} (h : RingP c ms) {id : Int} (hid : (id, ()) ∈ ms) : MatQ (mateNew c ms id) := {
 ring := h
 mem := hid
 items := fun k hk => by cases hk
 texts := ⟨Nat.zero_le _, rfl⟩
 lev := fun j hj => by cases hj
 short := fun j hj => by cases hj
 round := ⟨Int.le_refl _, show (0 : Int) ≤ 1000000000 by decide⟩
 seen := ⟨Int.le_refl _, show (0 : Int) ≤ 60 by decide⟩
 line := ⟨Int.le_refl _, Int.natCast_nonneg _⟩
 heard := ⟨Int.le_refl _, Int.natCast_nonneg _⟩
 last := .inl ⟨rfl, rfl, rfl, rfl, rfl, rfl⟩ }
def firstTok (c : Int) : TokR := (c, 1, 0, 0, 0, [], ())
theorem firstTok_ok {c : Int} {ms : MemL} (h : RingP c ms) : TokQ (firstTok c) := ⟨h.1, ⟨show (1 : Int) ≤ 1 by decide, show (1 : Int) ≤ 1000000000 by decide⟩, ⟨show (0 : Int) ≤ 0 by decide, show (0 : Int) ≤ 60 by decide⟩, ⟨show (0 : Int) ≤ 0 by decide, show (0 : Int) ≤ 0 by decide⟩, ⟨show (0 : Int) ≤ 0 by decide, show (0 : Int) ≤ 5 by decide⟩, Nat.zero_le _, fun k hk => by cases hk⟩
def workNew (c : Int) (ms : MemL) (a : Int) : WorkR := (c, ms, ms.map fun m => mateNew c ms m.1, [tokFly a (firstTok c)], List.replicate ms.length ([], ()), [], ())
theorem workNew_val {c : Int} {ms : MemL} (hr : RingP c ms) : spec_WorkNew c ms = some ((workNew c ms (ms[0]'hr.2.1.1).1).1, (workNew c ms (ms[0]'hr.2.1.1).1).2.1, (workNew c ms (ms[0]'hr.2.1.1).1).2.2.1, (workNew c ms (ms[0]'hr.2.1.1).1).2.2.2.1, (workNew c ms (ms[0]'hr.2.1.1).1).2.2.2.2.1, (workNew c ms (ms[0]'hr.2.1.1).1).2.2.2.2.2.1, true, ()) := by
 have hl := hr.2.1.2; have hl1 := hr.2.1.1; have h : ms.length ≤ 1048576 := by omega
 have r1 := (ring_ok c ms h).1; rw [(ring_ok c ms h).2.2.2 hr] at r1; have l1 := loop_run (round := spec_WorkNew_r0) (e := .inl (c, ms, (0 : Int), [], [], [], [], [], c, ms, ms.map fun m => mateNew c ms m.1, [], List.replicate ms.length ([], ()), [], ())) ms.length (fun k => (c, ms, (0 : Int), [], [], [], [], [], c, ms, (ms.take k).map fun m => mateNew c ms m.1, [], List.replicate k ([], ()), [], ((k : Nat) : Int), ())) (by
   simp only [spec_WorkNew_r0, spec_WorkNew_c0, lt_nat_irr, cond_false, List.take_length]) (fun k hk => by
   simp only [spec_WorkNew_r0, spec_WorkNew_c0, lt_nat_true hk, zero_le_nat, cond_true, toNat_nat, List.getElem?_eq_getElem hk, Option.bind_some, mateNew_spec c ms ms[k].1 h r1 (List.getElem_mem hk), List.length_map, List.length_take, List.length_replicate, Nat.min_eq_left (Nat.le_of_lt hk), ble_true (show (k + 1) * 208 ≤ lim by unfold lim; omega), ble_true (show (k + 1) * 24 ≤ lim by unfold lim; omega), succ_wrap (show k < 4611686018427387904 by omega)]; rw [map_take _ _ hk, List.replicate_succ']; rfl)
 have l1 : loopV spec_WorkNew_r0 (c, ms, (0 : Int), [], [], [], [], [], c, ms, [], [], [], [], (0 : Int), ()) = _ := l1; unfold spec_WorkNew spec_FirstToken; simp only [r1, Option.bind_some, Bool.not_true, cond_false, cond_true, ble_true (show (0 + ms.length) * 8 ≤ lim by unfold lim; omega), List.nil_append, l1, outK, List.getElem?_eq_getElem (show 0 < ms.length by omega)]; rfl
theorem workNew_ok {c : Int} {ms : MemL} (hr : RingP c ms) (a : Int) : WorkQ 0 c ms (workNew c ms a) := {
 ring := hr
 self := ⟨rfl, rfl⟩
 len := by show (ms.map _).length = _; rw [List.length_map]
 ids := fun k hk hm => by
   have hk : k < (ms.map fun m => mateNew c ms m.1).length := hk; show ((ms.map fun m => mateNew c ms m.1)[k]).1 = _; rw [List.getElem_map]; rfl
 matq := fun m hm => by
   have hm : m ∈ ms.map fun m => mateNew c ms m.1 := hm
   obtain ⟨x, hx, rfl⟩ := List.mem_map.1 hm; exact ⟨mateNew_ok hr hx, rfl, rfl⟩
 fly := fun f hf => by
   have hf : f ∈ [tokFly a (firstTok c)] := hf; rw [List.mem_singleton] at hf; subst hf; exact flyQ_tok (firstTok_ok hr)
 few := by show 1 ≤ _; omega
 heard := by show (List.replicate _ _).length = _; rw [List.length_replicate]
 list := fun x hx => by
   have hx : x ∈ List.replicate ms.length (([], ()) : ItemL × Unit) := hx; rw [List.mem_replicate] at hx; rw [hx.2]; exact Nat.zero_le _
 said := ⟨fun x hx => (by cases hx), Nat.zero_le _⟩ }
theorem size_ok (code : List (Int × Unit)) (h : code.length ≤ 1048576) : ∃ n : Nat, spec_l11Size code = some (((n : Nat) : Int), ()) ∧ n ≤ 89 := by
 have e : Int.tdiv ((List.length code : Nat) : Int) 4 = ((code.length / 4 : Nat) : Int) := rfl; unfold spec_l11Size; rw [e, wrap_id (show -9223372036854775808 ≤ ((code.length / 4 : Nat) : Int) by omega) (by omega), wrap_id (show -9223372036854775808 ≤ 24 + ((code.length / 4 : Nat) : Int) by omega) (by omega)]
 by_cases g : 89 < 24 + code.length / 4
 · rw [dec_true (show (89 : Int) < 24 + ((code.length / 4 : Nat) : Int) by omega)]; exact ⟨89, rfl, Nat.le_refl _⟩
 · rw [dec_false (show ¬ (89 : Int) < 24 + ((code.length / 4 : Nat) : Int) by omega)]; exact ⟨24 + code.length / 4, rfl, by omega⟩
theorem draw_ok (code : List (Int × Unit)) (a s : Int) (d : DrawAt code a) (hc : code.length ≤ 1048576) : ∃ (c : Int) (ms : MemL) (evs : List EvtR) (a' s' : Int), spec_l11Draw code a s code = some (c, ms, evs, code, a', s', ()) ∧ RingV c ms ∧ evs.length ≤ 89 ∧ (∀ e ∈ evs, EvtQ ms e) ∧ DrawAt code a' := by
 obtain ⟨c, ms, a1, s1, e1, hv, _, _, d1⟩ := l09ring_ok code a s d; have hr := ringP_of' hv; obtain ⟨n, e2, hn⟩ := size_ok code hc; obtain ⟨e, he, a', s', evs, rfl, q1, q2, d'⟩ := loop_inv (round := spec_l11Draw_r0) (x := (code, a1, s1, code, (0 : Int), [], [], c, ms, [], (workNew c ms (ms[0]'hr.2.1.1).1).1, (workNew c ms (ms[0]'hr.2.1.1).1).2.1, (workNew c ms (ms[0]'hr.2.1.1).1).2.2.1, (workNew c ms (ms[0]'hr.2.1.1).1).2.2.2.1, (workNew c ms (ms[0]'hr.2.1.1).1).2.2.2.2.1, (workNew c ms (ms[0]'hr.2.1.1).1).2.2.2.2.2.1, ((0 : Nat) : Int), ())) n
   (fun k x => ∃ (a s : Int) (evs : List EvtR) (w : WorkR), x = (code, a, s, code, (0 : Int), [], [], c, ms, evs, w.1, w.2.1, w.2.2.1, w.2.2.2.1, w.2.2.2.2.1, w.2.2.2.2.2.1, ((k : Nat) : Int), ()) ∧ WorkQ k c ms w ∧ evs.length = k ∧ (∀ e ∈ evs, EvtQ ms e) ∧ DrawAt code a)
   (fun e => ∃ (a s : Int) (evs : List EvtR), e = .inl (code, a, s, (0 : Int), [], [], c, ms, evs, ()) ∧ evs.length = n ∧ (∀ e ∈ evs, EvtQ ms e) ∧ DrawAt code a) (by
     rintro x ⟨a, s, evs, w, rfl, hw, q1, q2, d⟩
     exact ⟨_, by simp only [spec_l11Draw_r0, spec_l11Draw_c0, e2, Option.bind_some, lt_nat_irr, cond_false], a, s, evs, rfl, q1, q2, d⟩) (by
     rintro k x hk ⟨a, s, evs, w, rfl, hw, q1, q2, d⟩
     obtain ⟨e, a1, s1, e3, he, d1⟩ := evt_ok code a s d hw (by omega); obtain ⟨b, w', e4, hw'⟩ := do_step hw (by omega) he; refine .inr ⟨(code, a1, s1, code, (0 : Int), [], [], c, ms, evs ++ [e], w'.1, w'.2.1, w'.2.2.1, w'.2.2.2.1, w'.2.2.2.2.1, w'.2.2.2.2.2.1, ((k + 1 : Nat) : Int), ()), ?_, a1, s1, evs ++ [e], w', rfl, hw', by rw [List.length_append, q1]; rfl, fun x hx => ?_, d1⟩
     · simp only [spec_l11Draw_r0, spec_l11Draw_c0, e2, Option.bind_some, lt_nat_true hk, cond_true, e3, e4, ble_true (show (evs.length + 1) * 48 ≤ lim by rw [q1]; unfold lim; omega), succ_wrap (show k < 4611686018427387904 by omega)]
     · rcases List.mem_append.1 hx with hx | hx
       · exact q2 x hx
       · rw [List.mem_singleton] at hx; subst hx; exact he) ⟨a1, s1, [], _, rfl, workNew_ok hr _, rfl, fun e he => (by cases he), d1⟩
 have he : loopV spec_l11Draw_r0 (code, a1, s1, code, (0 : Int), [], [], c, ms, [], (workNew c ms (ms[0]'hr.2.1.1).1).1, (workNew c ms (ms[0]'hr.2.1.1).1).2.1, (workNew c ms (ms[0]'hr.2.1.1).1).2.2.1, (workNew c ms (ms[0]'hr.2.1.1).1).2.2.2.1, (workNew c ms (ms[0]'hr.2.1.1).1).2.2.2.2.1, (workNew c ms (ms[0]'hr.2.1.1).1).2.2.2.2.2.1, (0 : Int), ()) = _ := he; refine ⟨c, ms, evs, a', s', ?_, hv, by omega, q2, d'⟩; unfold spec_l11Draw; simp only [e1, Option.bind_some, workNew_val hr, he, outK]
theorem copy_val {n : Nat} {c : Int} {ms : MemL} {w : WorkR} (h : WorkQ n c ms w) (hn : n ≤ 1000) : spec_l11Copy w.1 w.2.1 w.2.2.1 w.2.2.2.1 w.2.2.2.2.1 w.2.2.2.2.2.1 = some (w.1, w.2.1, w.2.2.1, w.2.2.2.1, w.2.2.2.2.1, w.2.2.2.2.2.1, ()) := by
 obtain ⟨q0, q1, q2⟩ := h.five; have hf := h.few; have hs := h.said.2; have hh := h.heard; have hlist := h.list; have l1 := loop_run (round := spec_l11Copy_r0) (e := .inl (w.1, w.2.1, w.2.2.1, w.2.2.2.1, w.2.2.2.2.1, w.2.2.2.2.2.1, (0 : Int), [], [], [], [], [], w.1, w.2.1, w.2.2.1, [], [], w.2.2.2.2.2.1, ())) w.2.2.1.length (fun k => (w.1, w.2.1, w.2.2.1, w.2.2.2.1, w.2.2.2.2.1, w.2.2.2.2.2.1, (0 : Int), [], [], [], [], [], w.1, w.2.1, w.2.2.1.take k, [], [], w.2.2.2.2.2.1, ((k : Nat) : Int), ())) (by
   simp only [spec_l11Copy_r0, spec_l11Copy_c0, lt_nat_irr, cond_false, List.take_length]) (fun k hk => by
   have hc := (copyMate_eq (w.2.2.1[k]).1 (w.2.2.1[k]).2.1 (w.2.2.1[k]).2.2.1 (w.2.2.1[k]).2.2.2.1 (w.2.2.1[k]).2.2.2.2.1 (w.2.2.1[k]).2.2.2.2.2.1 (w.2.2.1[k]).2.2.2.2.2.2.1 (w.2.2.1[k]).2.2.2.2.2.2.2.1 (w.2.2.1[k]).2.2.2.2.2.2.2.2.1 (w.2.2.1[k]).2.2.2.2.2.2.2.2.2.1 (w.2.2.1[k]).2.2.2.2.2.2.2.2.2.2.1 (w.2.2.1[k]).2.2.2.2.2.2.2.2.2.2.2.1 (w.2.2.1[k]).2.2.2.2.2.2.2.2.2.2.2.2.1 (w.2.2.1[k]).2.2.2.2.2.2.2.2.2.2.2.2.2.1 (w.2.2.1[k]).2.2.2.2.2.2.2.2.2.2.2.2.2.2.1 (w.2.2.1[k]).2.2.2.2.2.2.2.2.2.2.2.2.2.2.2.1 (Nat.le_trans (h.matq _ (List.getElem_mem hk)).1.small (by decide))).1; simp only [spec_l11Copy_r0, spec_l11Copy_c0, lt_nat_true hk, zero_le_nat, cond_true, toNat_nat, List.getElem?_eq_getElem hk, Option.bind_some, hc, List.length_take, ble_true (show (min k w.2.2.1.length + 1) * 208 ≤ lim by unfold lim; omega), succ_wrap (show k < 4611686018427387904 by omega)]; rw [List.take_succ_eq_append_getElem hk])
 have l1 : loopV spec_l11Copy_r0 (w.1, w.2.1, w.2.2.1, w.2.2.2.1, w.2.2.2.2.1, w.2.2.2.2.2.1, (0 : Int), [], [], [], [], [], w.1, w.2.1, [], [], [], w.2.2.2.2.2.1, (0 : Int), ()) = _ := l1; have l2 := loop_run (round := spec_l11Copy_r2) (e := .inl (w.1, w.2.1, w.2.2.1, w.2.2.2.1, w.2.2.2.2.1, w.2.2.2.2.2.1, (0 : Int), [], [], [], [], [], w.1, w.2.1, w.2.2.1, w.2.2.2.1, [], w.2.2.2.2.2.1, ())) w.2.2.2.1.length (fun k => (w.1, w.2.1, w.2.2.1, w.2.2.2.1, w.2.2.2.2.1, w.2.2.2.2.2.1, (0 : Int), [], [], [], [], [], w.1, w.2.1, w.2.2.1, w.2.2.2.1.take k, [], w.2.2.2.2.2.1, ((k : Nat) : Int), ())) (by
   simp only [spec_l11Copy_r2, spec_l11Copy_c2, lt_nat_irr, cond_false, List.take_length]) (fun k hk => by
   have hc := (copyToken_eq (w.2.2.2.1[k]).2.2.1 (w.2.2.2.1[k]).2.2.2.1 (w.2.2.2.1[k]).2.2.2.2.1 (w.2.2.2.1[k]).2.2.2.2.2.1 (w.2.2.2.1[k]).2.2.2.2.2.2.1 (w.2.2.2.1[k]).2.2.2.2.2.2.2.1 (Nat.le_trans (h.fly _ (List.getElem_mem hk)).few (by decide))).1; simp only [spec_l11Copy_r2, spec_l11Copy_c2, lt_nat_true hk, zero_le_nat, cond_true, toNat_nat, List.getElem?_eq_getElem hk, Option.bind_some, hc, List.length_take, ble_true (show (min k w.2.2.2.1.length + 1) * 120 ≤ lim by unfold lim; omega), succ_wrap (show k < 4611686018427387904 by omega)]; rw [List.take_succ_eq_append_getElem hk])
 have l2 : loopV spec_l11Copy_r2 (w.1, w.2.1, w.2.2.1, w.2.2.2.1, w.2.2.2.2.1, w.2.2.2.2.2.1, (0 : Int), [], [], [], [], [], w.1, w.2.1, w.2.2.1, [], [], w.2.2.2.2.2.1, (0 : Int), ()) = _ := l2; have l3 := loop_run (round := spec_l11Copy_r4) (e := .inl ((0 : Int), [], [], [], [], [], w.1, w.2.1, w.2.2.1, w.2.2.2.1, w.2.2.2.2.1, w.2.2.2.2.2.1, ())) w.2.2.2.2.1.length (fun k => (w.1, w.2.1, w.2.2.1, w.2.2.2.1, w.2.2.2.2.1, w.2.2.2.2.2.1, (0 : Int), [], [], [], [], [], w.1, w.2.1, w.2.2.1, w.2.2.2.1, w.2.2.2.2.1.take k, w.2.2.2.2.2.1, ((k : Nat) : Int), ())) (by
   simp only [spec_l11Copy_r4, spec_l11Copy_c4, lt_nat_irr, cond_false, List.take_length]) (fun k hk => by
   have hx := hlist _ (List.getElem_mem hk); simp only [spec_l11Copy_r4, spec_l11Copy_c4, lt_nat_true hk, zero_le_nat, cond_true, toNat_nat, List.getElem?_eq_getElem hk, Option.bind_some, List.length_take, List.nil_append, ble_true (show (0 + (w.2.2.2.2.1[k]).1.length) * 40 ≤ lim by unfold lim; omega), ble_true (show (min k w.2.2.2.2.1.length + 1) * 24 ≤ lim by unfold lim; omega), succ_wrap (show k < 4611686018427387904 by omega)]; rw [List.take_succ_eq_append_getElem hk])
 have l3 : loopV spec_l11Copy_r4 (w.1, w.2.1, w.2.2.1, w.2.2.2.1, w.2.2.2.2.1, w.2.2.2.2.2.1, (0 : Int), [], [], [], [], [], w.1, w.2.1, w.2.2.1, w.2.2.2.1, [], w.2.2.2.2.2.1, (0 : Int), ()) = _ := l3; unfold spec_l11Copy; simp only [ble_true (show (0 + w.2.1.length) * 8 ≤ lim by unfold lim; omega), ble_true (show (0 + w.2.2.2.2.2.1.length) * 40 ≤ lim by unfold lim; omega), cond_true, List.nil_append, l1, l2, l3, outK, Option.bind_some]
theorem run_ok {c : Int} {ms : MemL} (hr : RingP c ms) (evs : List EvtR) (hl : evs.length ≤ 89) (he : ∀ e ∈ evs, EvtQ ms e) : ∃ (w : WorkR) (codes : MemL), spec_RunWork c ms evs = some (w.1, w.2.1, w.2.2.1, w.2.2.2.1, w.2.2.2.2.1, w.2.2.2.2.2.1, codes, true, ()) ∧ WorkQ evs.length c ms w := by
 generalize hw0 : workNew c ms (ms[0]'hr.2.1.1).1 = w0; have hW0 : WorkQ 0 c ms w0 := by rw [← hw0]; exact workNew_ok hr _
 have e0 : spec_WorkNew c ms = some (w0.1, w0.2.1, w0.2.2.1, w0.2.2.2.1, w0.2.2.2.2.1, w0.2.2.2.2.2.1, true, ()) := by rw [← hw0]; exact workNew_val hr
 have l1 := loop_run (round := spec_RunWork_r0) (e := .inl (evs, (0 : Int), [], [], [], [], [], w0.1, w0.2.1, w0.2.2.1, w0.2.2.2.1, w0.2.2.2.2.1, w0.2.2.2.2.2.1, true, ())) evs.length (fun k => (evs, c, ms, (0 : Int), [], [], [], [], [], w0.1, w0.2.1, w0.2.2.1, w0.2.2.2.1, w0.2.2.2.2.1, w0.2.2.2.2.2.1, true, ((k : Nat) : Int), ())) (by
   simp only [spec_RunWork_r0, spec_RunWork_c0, lt_nat_irr, cond_false]) (fun k hk => by
   simp only [spec_RunWork_r0, spec_RunWork_c0, lt_nat_true hk, cond_true, dec_true (show ((List.length evs : Nat) : Int) ≤ 90 by omega), zero_le_nat, toNat_nat, List.getElem?_eq_getElem hk, Option.bind_some, turn_ok hr (he _ (List.getElem_mem hk)), succ_wrap (show k < 4611686018427387904 by omega)])
 have l1 : loopV spec_RunWork_r0 (evs, c, ms, (0 : Int), [], [], [], [], [], w0.1, w0.2.1, w0.2.2.1, w0.2.2.2.1, w0.2.2.2.2.1, w0.2.2.2.2.2.1, true, (0 : Int), ()) = _ := l1; obtain ⟨e, l2, w, codes, rfl, hw⟩ := loop_inv (round := spec_RunWork_r2) (x := (evs, (0 : Int), [], [], [], [], [], w0.1, w0.2.1, w0.2.2.1, w0.2.2.2.1, w0.2.2.2.2.1, w0.2.2.2.2.2.1, [], ((0 : Nat) : Int), ())) evs.length
   (fun k x => ∃ (w : WorkR) (codes : MemL), x = (evs, (0 : Int), [], [], [], [], [], w.1, w.2.1, w.2.2.1, w.2.2.2.1, w.2.2.2.2.1, w.2.2.2.2.2.1, codes, ((k : Nat) : Int), ()) ∧ WorkQ k c ms w ∧ codes.length = k)
   (fun e => ∃ (w : WorkR) (codes : MemL), e = .inl ((0 : Int), [], [], [], [], [], w.1, w.2.1, w.2.2.1, w.2.2.2.1, w.2.2.2.2.1, w.2.2.2.2.2.1, codes, ()) ∧ WorkQ evs.length c ms w) (by
     rintro x ⟨w, codes, rfl, hw, q⟩
     exact ⟨_, by simp only [spec_RunWork_r2, spec_RunWork_c2, lt_nat_irr, cond_false], w, codes, rfl, hw⟩) (by
     rintro k x hk ⟨w, codes, rfl, hw, q⟩
     obtain ⟨b, w', e1, hw'⟩ := do_step hw (by omega) (he _ (List.getElem_mem hk)); refine .inr ⟨(evs, (0 : Int), [], [], [], [], [], w'.1, w'.2.1, w'.2.2.1, w'.2.2.2.1, w'.2.2.2.2.1, w'.2.2.2.2.2.1, codes ++ [(b, ())], ((k + 1 : Nat) : Int), ()), ?_, w', _, rfl, hw', by rw [List.length_append, q]; rfl⟩; simp only [spec_RunWork_r2, spec_RunWork_c2, lt_nat_true hk, cond_true, zero_le_nat, toNat_nat, List.getElem?_eq_getElem hk, Option.bind_some, e1, ble_true (show (codes.length + 1) * 8 ≤ lim by rw [q]; unfold lim; omega), succ_wrap (show k < 4611686018427387904 by omega)]) ⟨w0, [], rfl, hW0, rfl⟩
 have l2 : loopV spec_RunWork_r2 (evs, (0 : Int), [], [], [], [], [], w0.1, w0.2.1, w0.2.2.1, w0.2.2.2.1, w0.2.2.2.2.1, w0.2.2.2.2.2.1, [], (0 : Int), ()) = _ := l2; refine ⟨w, codes, ?_, hw⟩; unfold spec_RunWork; simp only [e0, Option.bind_some, l1, outK, Bool.not_true, cond_false, l2, copy_val hw (by omega)]
theorem world_ok (code : List (Int × Unit)) (a s : Int) (d : DrawAt code a) (hc : code.length ≤ 1048576) : ∃ (w : WorkR) (a' s' : Int) (n : Nat) (c : Int) (ms : MemL), spec_l11World code a s code = some (w.1, w.2.1, w.2.2.1, w.2.2.2.1, w.2.2.2.2.1, w.2.2.2.2.2.1, code, a', s', ()) ∧ WorkQ n c ms w ∧ n ≤ 89 ∧ DrawAt code a' := by
 obtain ⟨c, ms, evs, a', s', e1, hv, hl, he, d'⟩ := draw_ok code a s d hc; obtain ⟨w, codes, e2, hw⟩ := run_ok (ringP_of' hv) evs hl he; refine ⟨w, a', s', evs.length, c, ms, ?_, hw, hl, d'⟩; unfold spec_l11World; simp only [e1, Option.bind_some, e2]
theorem drawcaught_ok (code : List (Int × Unit)) (hc : code.length ≤ 1048576) : ∃ (m : MatR) (x : ItemR), spec_DrawCaught code = some (m.1, m.2.1, m.2.2.1, m.2.2.2.1, m.2.2.2.2.1, m.2.2.2.2.2.1, m.2.2.2.2.2.2.1, m.2.2.2.2.2.2.2.1, m.2.2.2.2.2.2.2.2.1, m.2.2.2.2.2.2.2.2.2.1, m.2.2.2.2.2.2.2.2.2.2.1, m.2.2.2.2.2.2.2.2.2.2.2.1, m.2.2.2.2.2.2.2.2.2.2.2.2.1, m.2.2.2.2.2.2.2.2.2.2.2.2.2.1, m.2.2.2.2.2.2.2.2.2.2.2.2.2.2.1, m.2.2.2.2.2.2.2.2.2.2.2.2.2.2.2.1, x.1, x.2.1, x.2.2.1, x.2.2.2.1, ()) ∧ MatQ m := by
 obtain ⟨s0, e0⟩ := new_ok code hc; obtain ⟨w, a, s, n, c, ms, e1, hw, hn, d⟩ := world_ok code 0 s0 ⟨by omega, by omega, hc⟩ hc; obtain ⟨q0, q1, q2⟩ := hw.five; have h1 : 1 ≤ w.2.2.1.length := by rw [hw.len]; exact hw.ring.2.1.1
 obtain ⟨i, a1, s1, e2, i0, i1, d1⟩ := below_ok code a s ((List.length w.2.2.1 : Nat) : Int) d (by omega); obtain ⟨i, rfl⟩ := Int.eq_ofNat_of_zero_le i0; have hi : i < w.2.2.1.length := by omega
 have hm := (hw.matq _ (List.getElem_mem hi)).1; unfold spec_DrawCaught; simp only [e0, e1, e2, Option.bind_some, zero_le_nat, cond_true, toNat_nat, blt_true hi, List.getElem?_eq_getElem hi]; have any : ∀ (a s : Int), DrawAt code a → ∃ (m : MatR) (x : ItemR), (Option.bind (spec_l05AnyItem code a s) fun y => some ((w.2.2.1[i]).1, (w.2.2.1[i]).2.1, (w.2.2.1[i]).2.2.1, (w.2.2.1[i]).2.2.2.1, (w.2.2.1[i]).2.2.2.2.1, (w.2.2.1[i]).2.2.2.2.2.1, (w.2.2.1[i]).2.2.2.2.2.2.1, (w.2.2.1[i]).2.2.2.2.2.2.2.1, (w.2.2.1[i]).2.2.2.2.2.2.2.2.1, (w.2.2.1[i]).2.2.2.2.2.2.2.2.2.1, (w.2.2.1[i]).2.2.2.2.2.2.2.2.2.2.1, (w.2.2.1[i]).2.2.2.2.2.2.2.2.2.2.2.1, (w.2.2.1[i]).2.2.2.2.2.2.2.2.2.2.2.2.1, (w.2.2.1[i]).2.2.2.2.2.2.2.2.2.2.2.2.2.1, (w.2.2.1[i]).2.2.2.2.2.2.2.2.2.2.2.2.2.2.1, (w.2.2.1[i]).2.2.2.2.2.2.2.2.2.2.2.2.2.2.2.1, y.1, y.2.1, y.2.2.1, y.2.2.2.1, ())) = some (m.1, m.2.1, m.2.2.1, m.2.2.2.1, m.2.2.2.2.1, m.2.2.2.2.2.1, m.2.2.2.2.2.2.1, m.2.2.2.2.2.2.2.1, m.2.2.2.2.2.2.2.2.1, m.2.2.2.2.2.2.2.2.2.1, m.2.2.2.2.2.2.2.2.2.2.1, m.2.2.2.2.2.2.2.2.2.2.2.1, m.2.2.2.2.2.2.2.2.2.2.2.2.1, m.2.2.2.2.2.2.2.2.2.2.2.2.2.1, m.2.2.2.2.2.2.2.2.2.2.2.2.2.2.1, m.2.2.2.2.2.2.2.2.2.2.2.2.2.2.2.1, x.1, x.2.1, x.2.2.1, x.2.2.2.1, ()) ∧ MatQ m := by
   intro a s d; obtain ⟨q, f, l, t, a', s', e, _, _⟩ := anyitem_ok code a s d; refine ⟨w.2.2.1[i], (q, f, l, t, ()), ?_, hm⟩; simp only [e, Option.bind_some]
 by_cases h0 : 0 < w.2.2.2.2.2.1.length
 · rw [dec_true (show (0 : Int) < ((List.length w.2.2.2.2.2.1 : Nat) : Int) by omega)]; obtain ⟨o, a2, s2, e3, d2⟩ := once_ok code a1 s1 4 d1 (by omega); rw [cond_true, e3, Option.bind_some]
   cases o
   · obtain ⟨j, a3, s3, e4, j0, j1, d3⟩ := below_ok code a2 s2 ((List.length w.2.2.2.2.2.1 : Nat) : Int) d2 (by omega); obtain ⟨j, rfl⟩ := Int.eq_ofNat_of_zero_le j0; have hj : j < w.2.2.2.2.2.1.length := by omega
     refine ⟨w.2.2.1[i], w.2.2.2.2.2.1[j], ?_, hm⟩; simp only [Bool.not_false, cond_true, e4, Option.bind_some, zero_le_nat, toNat_nat, blt_true hj, List.getElem?_eq_getElem hj]
   · simp only [Bool.not_true, cond_false]; exact any a2 s2 d2
 · rw [dec_false (show ¬ (0 : Int) < ((List.length w.2.2.2.2.2.1 : Nat) : Int) by omega)]; simp only [cond_false]; exact any a1 s1 d1
end Go.TM
